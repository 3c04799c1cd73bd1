/-
  THE WALK OF sextonref20.only, kind by kind. (Printed by wip/bin/genmsgl.py.)
-/
import Derived.Test.YtiieakndjheknaaDoorPk4
namespace Go.Proofs.YtiieakndjheknaaDoor
set_option maxRecDepth 100000
open Go.RowKit
set_option linter.unusedVariables false
set_option linter.unusedSimpArgs false
theorem b_mo3 (k a b : Int) : Tryd.prog.built 34 [(0, .int .u8 k), (1, .int .i64 a), (2, .int .i64 b)] = some (mgC { mg0 with k := k, fr := a, to := b }).toArray := by kernel_rfl
set_option maxHeartbeats 4000000 in
theorem only_0 (m : Mg) (w : World) (hk : kindB m.k = false) : Calls Tryd.prog 55 #[.agg (mgC m).toArray] w (RetV w (.agg (mgC (bareM m)).toArray)) := by
  have hB : bareM m = bare0 m := by unfold bareM lets; rw [if_neg (by simp only [kindB, Bool.and_eq_false_iff, decide_eq_false_iff_not] at hk; omega)]; rfl
  have b1 : (m.k == 1) = false := beq_eq_false_iff_ne.mpr (fun h => by rw [h] at hk; cases hk)
  have b2 : (m.k == 2) = false := beq_eq_false_iff_ne.mpr (fun h => by rw [h] at hk; cases hk)
  have b3 : (m.k == 3) = false := beq_eq_false_iff_ne.mpr (fun h => by rw [h] at hk; cases hk)
  have b4 : (m.k == 4) = false := beq_eq_false_iff_ne.mpr (fun h => by rw [h] at hk; cases hk)
  have b5 : (m.k == 5) = false := beq_eq_false_iff_ne.mpr (fun h => by rw [h] at hk; cases hk)
  have b6 : (m.k == 6) = false := beq_eq_false_iff_ne.mpr (fun h => by rw [h] at hk; cases hk)
  have b7 : (m.k == 7) = false := beq_eq_false_iff_ne.mpr (fun h => by rw [h] at hk; cases hk)
  have b8 : (m.k == 8) = false := beq_eq_false_iff_ne.mpr (fun h => by rw [h] at hk; cases hk)
  have b9 : (m.k == 9) = false := beq_eq_false_iff_ne.mpr (fun h => by rw [h] at hk; cases hk)
  have b10 : (m.k == 10) = false := beq_eq_false_iff_ne.mpr (fun h => by rw [h] at hk; cases hk)
  have b11 : (m.k == 11) = false := beq_eq_false_iff_ne.mpr (fun h => by rw [h] at hk; cases hk)
  have b12 : (m.k == 12) = false := beq_eq_false_iff_ne.mpr (fun h => by rw [h] at hk; cases hk)
  have b13 : (m.k == 13) = false := beq_eq_false_iff_ne.mpr (fun h => by rw [h] at hk; cases hk)
  have b14 : (m.k == 14) = false := beq_eq_false_iff_ne.mpr (fun h => by rw [h] at hk; cases hk)
  have b15 : (m.k == 15) = false := beq_eq_false_iff_ne.mpr (fun h => by rw [h] at hk; cases hk)
  clear hk
  rw [hB]
  clear hB
  have H := Hp.nil w; go_enter Tryd.func55, Tryd.ntmps55; go_wp2_with (first | ((with_reducible refine Hp.box H ?_); (first | refine ⟨rfl, mgC m, rfl, ?_⟩); (clear H; intro gm w1 H); go_frame) | ((with_reducible refine Hp.allo (ty := 34) H ?_); refine ⟨rfl, ?_⟩; refine ⟨_, z_look rfl, ?_⟩; (clear H; intro gr w1 H); go_frame) | ((with_reducible refine Hp.ld H ?_); refine ⟨rfl, ?_⟩; refine ⟨c_look rfl, ?_⟩; refine ⟨_, _, rfl, ?_⟩; (first | refine ⟨_, _, _, .z, ?_⟩ | refine ⟨_, _, _, .s .z, ?_⟩ | refine ⟨_, _, _, .s (.s .z), ?_⟩); refine ⟨_, rfl, ?_⟩; go_frame) | ((with_reducible refine Hp.lda H ?_); refine ⟨rfl, by kernel_rfl, ?_⟩; refine ⟨_, s_look rfl, ?_⟩; refine ⟨_, rfl, ?_⟩; (first | refine ⟨_, _, _, .z, ?_⟩ | refine ⟨_, _, _, .s .z, ?_⟩ | refine ⟨_, _, _, .s (.s .z), ?_⟩); refine ⟨rfl, ?_⟩; go_frame) | ((with_reducible refine Hp.lds H ?_); refine ⟨rfl, by kernel_rfl, ?_⟩; refine ⟨_, s_look rfl, ?_⟩; refine ⟨_, _, rfl, ?_⟩; (first | refine ⟨_, _, _, .z, ?_⟩ | refine ⟨_, _, _, .s .z, ?_⟩ | refine ⟨_, _, _, .s (.s .z), ?_⟩); (fail); go_frame) | (fail) | ((with_reducible refine Hp.sta H ?_); refine ⟨rfl, ?_⟩; refine ⟨_, s_look rfl, ?_⟩; refine ⟨_, rfl, _, rfl, rfl, ?_⟩; (first | refine ⟨_, _, _, .z, ?_⟩ | refine ⟨_, _, _, .s .z, ?_⟩ | refine ⟨_, _, _, .s (.s .z), ?_⟩); refine ⟨rfl, rfl, ?_⟩; (clear H; intro w1 H; simp only [List.set] at H); go_frame) | (fail) | ((with_reducible refine Hp.bdl (t := 34) (parts := [_, _, _]) H ?_); refine ⟨rfl, mgC (bare0 m), b_mo3 _ _ _, ?_⟩; go_frame) | (fail))
  have hS := True.intro
  clear hS; go_wp2_with (first | ((with_reducible refine Hp.box H ?_); (first | refine ⟨rfl, mgC m, rfl, ?_⟩); (clear H; intro gm w1 H); go_frame) | ((with_reducible refine Hp.allo (ty := 34) H ?_); refine ⟨rfl, ?_⟩; refine ⟨_, z_look rfl, ?_⟩; (clear H; intro gr w1 H); go_frame) | ((with_reducible refine Hp.ld H ?_); refine ⟨rfl, ?_⟩; refine ⟨c_look rfl, ?_⟩; refine ⟨_, _, rfl, ?_⟩; (first | refine ⟨_, _, _, .z, ?_⟩ | refine ⟨_, _, _, .s .z, ?_⟩ | refine ⟨_, _, _, .s (.s .z), ?_⟩); refine ⟨_, rfl, ?_⟩; go_frame) | ((with_reducible refine Hp.lda H ?_); refine ⟨rfl, by kernel_rfl, ?_⟩; refine ⟨_, s_look rfl, ?_⟩; refine ⟨_, rfl, ?_⟩; (first | refine ⟨_, _, _, .z, ?_⟩ | refine ⟨_, _, _, .s .z, ?_⟩ | refine ⟨_, _, _, .s (.s .z), ?_⟩); refine ⟨rfl, ?_⟩; go_frame) | ((with_reducible refine Hp.lds H ?_); refine ⟨rfl, by kernel_rfl, ?_⟩; refine ⟨_, s_look rfl, ?_⟩; refine ⟨_, _, rfl, ?_⟩; (first | refine ⟨_, _, _, .z, ?_⟩ | refine ⟨_, _, _, .s .z, ?_⟩ | refine ⟨_, _, _, .s (.s .z), ?_⟩); (fail); go_frame) | (fail) | ((with_reducible refine Hp.sta H ?_); refine ⟨rfl, ?_⟩; refine ⟨_, s_look rfl, ?_⟩; refine ⟨_, rfl, _, rfl, rfl, ?_⟩; (first | refine ⟨_, _, _, .z, ?_⟩ | refine ⟨_, _, _, .s .z, ?_⟩ | refine ⟨_, _, _, .s (.s .z), ?_⟩); refine ⟨rfl, rfl, ?_⟩; (clear H; intro w1 H; simp only [List.set] at H); go_frame) | (fail) | ((with_reducible refine Hp.bdl (t := 34) (parts := [_, _, _]) H ?_); refine ⟨rfl, mgC (bare0 m), b_mo3 _ _ _, ?_⟩; go_frame) | (fail)); exact bodyPost_ret (results_c rfl rfl (H.var (by kernel_rfl) (t := 34) (cs := mgC (bare0 m)) (.s .z) s_Msg)) rfl ⟨rfl, H.below⟩
set_option maxHeartbeats 4000000 in
theorem only_1 (m : Mg) (w : World) (hk : m.k = 1) : Calls Tryd.prog 55 #[.agg (mgC m).toArray] w (RetV w (.agg (mgC (bareM m)).toArray)) := by
  have hB : bareM m = (keepM 111 (keepM 115 (bare0 m) m) m) := by unfold bareM; rw [hk]; rfl
  have b1 : (m.k == 1) = true := by rw [hk]; rfl
  have b2 : (m.k == 2) = false := by rw [hk]; rfl
  have b3 : (m.k == 3) = false := by rw [hk]; rfl
  have b4 : (m.k == 4) = false := by rw [hk]; rfl
  have b5 : (m.k == 5) = false := by rw [hk]; rfl
  have b6 : (m.k == 6) = false := by rw [hk]; rfl
  have b7 : (m.k == 7) = false := by rw [hk]; rfl
  have b8 : (m.k == 8) = false := by rw [hk]; rfl
  have b9 : (m.k == 9) = false := by rw [hk]; rfl
  have b10 : (m.k == 10) = false := by rw [hk]; rfl
  have b11 : (m.k == 11) = false := by rw [hk]; rfl
  have b12 : (m.k == 12) = false := by rw [hk]; rfl
  have b13 : (m.k == 13) = false := by rw [hk]; rfl
  have b14 : (m.k == 14) = false := by rw [hk]; rfl
  have b15 : (m.k == 15) = false := by rw [hk]; rfl
  clear hk
  rw [hB]
  clear hB
  have H := Hp.nil w; go_enter Tryd.func55, Tryd.ntmps55; go_wp2_with (first | ((with_reducible refine Hp.box H ?_); (first | refine ⟨rfl, mgC m, rfl, ?_⟩); (clear H; intro gm w1 H); go_frame) | ((with_reducible refine Hp.allo (ty := 34) H ?_); refine ⟨rfl, ?_⟩; refine ⟨_, z_look rfl, ?_⟩; (clear H; intro gr w1 H); go_frame) | ((with_reducible refine Hp.ld H ?_); refine ⟨rfl, ?_⟩; refine ⟨c_look rfl, ?_⟩; refine ⟨_, _, rfl, ?_⟩; (first | refine ⟨_, _, _, .z, ?_⟩ | refine ⟨_, _, _, .s .z, ?_⟩ | refine ⟨_, _, _, .s (.s .z), ?_⟩); refine ⟨_, rfl, ?_⟩; go_frame) | ((with_reducible refine Hp.lda H ?_); refine ⟨rfl, by kernel_rfl, ?_⟩; refine ⟨_, s_look rfl, ?_⟩; refine ⟨_, rfl, ?_⟩; (first | refine ⟨_, _, _, .z, ?_⟩ | refine ⟨_, _, _, .s .z, ?_⟩ | refine ⟨_, _, _, .s (.s .z), ?_⟩); refine ⟨rfl, ?_⟩; go_frame) | ((with_reducible refine Hp.lds H ?_); refine ⟨rfl, by kernel_rfl, ?_⟩; refine ⟨_, s_look rfl, ?_⟩; refine ⟨_, _, rfl, ?_⟩; (first | refine ⟨_, _, _, .z, ?_⟩ | refine ⟨_, _, _, .s .z, ?_⟩ | refine ⟨_, _, _, .s (.s .z), ?_⟩); (fail); go_frame) | (fail) | ((with_reducible refine Hp.sta H ?_); refine ⟨rfl, ?_⟩; refine ⟨_, s_look rfl, ?_⟩; refine ⟨_, rfl, _, rfl, rfl, ?_⟩; (first | refine ⟨_, _, _, .z, ?_⟩ | refine ⟨_, _, _, .s .z, ?_⟩ | refine ⟨_, _, _, .s (.s .z), ?_⟩); refine ⟨rfl, rfl, ?_⟩; (clear H; intro w1 H; simp only [List.set] at H); go_frame) | (fail) | ((with_reducible refine Hp.bdl (t := 34) (parts := [_, _, _]) H ?_); refine ⟨rfl, mgC (bare0 m), b_mo3 _ _ _, ?_⟩; go_frame) | (fail))
  refine hw_start [_, _] [_] H (by kernel_rfl) (fun w1 H => ?_); have hS : HpW w _ w1 := ⟨[_, _], H⟩; simp only [List.cons_append, List.nil_append] at H
  (refine hw_take hS 0 (by decide +kernel) (by decide +kernel) (by decide +kernel) ⟨_, rfl, rfl, ?_, ?_, fun _ _ _ h => h, ?_⟩; rotate_left; (intro w _; go_simp; try with_reducible rfl); go_frame)
  (refine hw_take hS 1 (by decide +kernel) (by decide +kernel) (by decide +kernel) ⟨_, rfl, rfl, _, fun w h => ex_load rfl rfl (hw_ld (by kernel_rfl) (.z) rfl w h), fun _ _ _ h => h, ?_⟩; go_frame)
  (refine hw_take hS 2 (by decide +kernel) (by decide +kernel) (by decide +kernel) ⟨_, rfl, rfl, ?_, ?_, fun _ _ _ h => h, ?_⟩; rotate_left; (intro w _; go_simp; try with_reducible rfl); go_frame)
  (refine hw_take hS 3 (by decide +kernel) (by decide +kernel) (by decide +kernel) ⟨_, rfl, rfl, _, fun w h => ex_load rfl rfl (hw_lds (by kernel_rfl) s_Op (.z) (vs := opC m.ok m.o0 m.o1 m.o2) rfl rfl w h), fun _ _ _ h => h, ?_⟩; go_frame)
  (refine hw_take hS 4 (by decide +kernel) (by decide +kernel) (by decide +kernel) ⟨_, rfl, rfl, ?_, ?_, fun _ _ _ h => h, ?_⟩; rotate_left; (intro w _; go_simp; try with_reducible rfl); go_frame)
  (refine hw_one 5 (by decide +kernel) ⟨_, rfl, rfl, fun K hK => ?_⟩; refine hw_sto (v := .int .i64 m.sq) (by kernel_rfl) rfl rfl rfl H .z (Nat.le_of_ble_eq_true rfl) rfl (fun w1 HQ => ?_); (replace H : Hp w w1 (.blk _ _ (mgC (keepM 115 (bare0 m) m)) :: .blk _ _ (mgC mg0) :: .blk _ _ (mgC m) :: []) := HQ); refine hK _ _ ⟨[_, _], H⟩ ?_; clear hK K HQ; go_frame; have hS : HpW w _ w1 := ⟨[_, _], H⟩)
  (refine hw_take hS 6 (by decide +kernel) (by decide +kernel) (by decide +kernel) ⟨_, rfl, rfl, ?_, ?_, fun _ _ _ h => h, ?_⟩; rotate_left; (intro w _; go_simp; try with_reducible rfl); go_frame)
  (refine hw_one 7 (by decide +kernel) ⟨_, rfl, rfl, fun K hK => ?_⟩; refine hw_str (vs := opC m.ok m.o0 m.o1 m.o2) rfl rfl rfl H s_Op .z rfl (Nat.le_of_ble_eq_true rfl) rfl (fun w1 HQ => ?_); (replace H : Hp w w1 (.blk _ _ (mgC (keepM 111 (keepM 115 (bare0 m) m) m)) :: .blk _ _ (mgC mg0) :: .blk _ _ (mgC m) :: []) := HQ); refine hK _ _ ⟨[_, _], H⟩ ?_; clear hK K HQ; go_frame; have hS : HpW w _ w1 := ⟨[_, _], H⟩)
  refine wpAnyH_done (by kernel_rfl) ?_ _
  clear hS; go_wp2_with (first | ((with_reducible refine Hp.box H ?_); (first | refine ⟨rfl, mgC m, rfl, ?_⟩); (clear H; intro gm w1 H); go_frame) | ((with_reducible refine Hp.allo (ty := 34) H ?_); refine ⟨rfl, ?_⟩; refine ⟨_, z_look rfl, ?_⟩; (clear H; intro gr w1 H); go_frame) | ((with_reducible refine Hp.ld H ?_); refine ⟨rfl, ?_⟩; refine ⟨c_look rfl, ?_⟩; refine ⟨_, _, rfl, ?_⟩; (first | refine ⟨_, _, _, .z, ?_⟩ | refine ⟨_, _, _, .s .z, ?_⟩ | refine ⟨_, _, _, .s (.s .z), ?_⟩); refine ⟨_, rfl, ?_⟩; go_frame) | ((with_reducible refine Hp.lda H ?_); refine ⟨rfl, by kernel_rfl, ?_⟩; refine ⟨_, s_look rfl, ?_⟩; refine ⟨_, rfl, ?_⟩; (first | refine ⟨_, _, _, .z, ?_⟩ | refine ⟨_, _, _, .s .z, ?_⟩ | refine ⟨_, _, _, .s (.s .z), ?_⟩); refine ⟨rfl, ?_⟩; go_frame) | ((with_reducible refine Hp.lds H ?_); refine ⟨rfl, by kernel_rfl, ?_⟩; refine ⟨_, s_look rfl, ?_⟩; refine ⟨_, _, rfl, ?_⟩; (first | refine ⟨_, _, _, .z, ?_⟩ | refine ⟨_, _, _, .s .z, ?_⟩ | refine ⟨_, _, _, .s (.s .z), ?_⟩); (fail); go_frame) | (fail) | ((with_reducible refine Hp.sta H ?_); refine ⟨rfl, ?_⟩; refine ⟨_, s_look rfl, ?_⟩; refine ⟨_, rfl, _, rfl, rfl, ?_⟩; (first | refine ⟨_, _, _, .z, ?_⟩ | refine ⟨_, _, _, .s .z, ?_⟩ | refine ⟨_, _, _, .s (.s .z), ?_⟩); refine ⟨rfl, rfl, ?_⟩; (clear H; intro w1 H; simp only [List.set] at H); go_frame) | (fail) | ((with_reducible refine Hp.bdl (t := 34) (parts := [_, _, _]) H ?_); refine ⟨rfl, mgC (bare0 m), b_mo3 _ _ _, ?_⟩; go_frame) | (fail)); exact bodyPost_ret (results_c rfl rfl (H.var (by kernel_rfl) (t := 34) (cs := mgC (keepM 111 (keepM 115 (bare0 m) m) m)) (.s .z) s_Msg)) rfl ⟨rfl, H.below⟩
set_option maxHeartbeats 4000000 in
theorem only_2 (m : Mg) (w : World) (hk : m.k = 2) : Calls Tryd.prog 55 #[.agg (mgC m).toArray] w (RetV w (.agg (mgC (bareM m)).toArray)) := by
  have hB : bareM m = (keepM 114 (keepM 115 (bare0 m) m) m) := by unfold bareM; rw [hk]; rfl
  have b1 : (m.k == 1) = false := by rw [hk]; rfl
  have b2 : (m.k == 2) = true := by rw [hk]; rfl
  have b3 : (m.k == 3) = false := by rw [hk]; rfl
  have b4 : (m.k == 4) = false := by rw [hk]; rfl
  have b5 : (m.k == 5) = false := by rw [hk]; rfl
  have b6 : (m.k == 6) = false := by rw [hk]; rfl
  have b7 : (m.k == 7) = false := by rw [hk]; rfl
  have b8 : (m.k == 8) = false := by rw [hk]; rfl
  have b9 : (m.k == 9) = false := by rw [hk]; rfl
  have b10 : (m.k == 10) = false := by rw [hk]; rfl
  have b11 : (m.k == 11) = false := by rw [hk]; rfl
  have b12 : (m.k == 12) = false := by rw [hk]; rfl
  have b13 : (m.k == 13) = false := by rw [hk]; rfl
  have b14 : (m.k == 14) = false := by rw [hk]; rfl
  have b15 : (m.k == 15) = false := by rw [hk]; rfl
  clear hk
  rw [hB]
  clear hB
  have H := Hp.nil w; go_enter Tryd.func55, Tryd.ntmps55; go_wp2_with (first | ((with_reducible refine Hp.box H ?_); (first | refine ⟨rfl, mgC m, rfl, ?_⟩); (clear H; intro gm w1 H); go_frame) | ((with_reducible refine Hp.allo (ty := 34) H ?_); refine ⟨rfl, ?_⟩; refine ⟨_, z_look rfl, ?_⟩; (clear H; intro gr w1 H); go_frame) | ((with_reducible refine Hp.ld H ?_); refine ⟨rfl, ?_⟩; refine ⟨c_look rfl, ?_⟩; refine ⟨_, _, rfl, ?_⟩; (first | refine ⟨_, _, _, .z, ?_⟩ | refine ⟨_, _, _, .s .z, ?_⟩ | refine ⟨_, _, _, .s (.s .z), ?_⟩); refine ⟨_, rfl, ?_⟩; go_frame) | ((with_reducible refine Hp.lda H ?_); refine ⟨rfl, by kernel_rfl, ?_⟩; refine ⟨_, s_look rfl, ?_⟩; refine ⟨_, rfl, ?_⟩; (first | refine ⟨_, _, _, .z, ?_⟩ | refine ⟨_, _, _, .s .z, ?_⟩ | refine ⟨_, _, _, .s (.s .z), ?_⟩); refine ⟨rfl, ?_⟩; go_frame) | ((with_reducible refine Hp.lds H ?_); refine ⟨rfl, by kernel_rfl, ?_⟩; refine ⟨_, s_look rfl, ?_⟩; refine ⟨_, _, rfl, ?_⟩; (first | refine ⟨_, _, _, .z, ?_⟩ | refine ⟨_, _, _, .s .z, ?_⟩ | refine ⟨_, _, _, .s (.s .z), ?_⟩); (fail); go_frame) | (fail) | ((with_reducible refine Hp.sta H ?_); refine ⟨rfl, ?_⟩; refine ⟨_, s_look rfl, ?_⟩; refine ⟨_, rfl, _, rfl, rfl, ?_⟩; (first | refine ⟨_, _, _, .z, ?_⟩ | refine ⟨_, _, _, .s .z, ?_⟩ | refine ⟨_, _, _, .s (.s .z), ?_⟩); refine ⟨rfl, rfl, ?_⟩; (clear H; intro w1 H; simp only [List.set] at H); go_frame) | (fail) | ((with_reducible refine Hp.bdl (t := 34) (parts := [_, _, _]) H ?_); refine ⟨rfl, mgC (bare0 m), b_mo3 _ _ _, ?_⟩; go_frame) | (fail))
  refine hw_start [_, _] [_] H (by kernel_rfl) (fun w1 H => ?_); have hS : HpW w _ w1 := ⟨[_, _], H⟩; simp only [List.cons_append, List.nil_append] at H
  (refine hw_take hS 0 (by decide +kernel) (by decide +kernel) (by decide +kernel) ⟨_, rfl, rfl, ?_, ?_, fun _ _ _ h => h, ?_⟩; rotate_left; (intro w _; go_simp; try with_reducible rfl); go_frame)
  (refine hw_take hS 1 (by decide +kernel) (by decide +kernel) (by decide +kernel) ⟨_, rfl, rfl, _, fun w h => ex_load rfl rfl (hw_ld (by kernel_rfl) (.z) rfl w h), fun _ _ _ h => h, ?_⟩; go_frame)
  (refine hw_take hS 2 (by decide +kernel) (by decide +kernel) (by decide +kernel) ⟨_, rfl, rfl, ?_, ?_, fun _ _ _ h => h, ?_⟩; rotate_left; (intro w _; go_simp; try with_reducible rfl); go_frame)
  (refine hw_take hS 3 (by decide +kernel) (by decide +kernel) (by decide +kernel) ⟨_, rfl, rfl, _, fun w h => ex_load rfl rfl (hw_lds (by kernel_rfl) s_Reply (.z) (vs := reC m.re m.rf m.rv) rfl rfl w h), fun _ _ _ h => h, ?_⟩; go_frame)
  (refine hw_take hS 4 (by decide +kernel) (by decide +kernel) (by decide +kernel) ⟨_, rfl, rfl, ?_, ?_, fun _ _ _ h => h, ?_⟩; rotate_left; (intro w _; go_simp; try with_reducible rfl); go_frame)
  (refine hw_one 5 (by decide +kernel) ⟨_, rfl, rfl, fun K hK => ?_⟩; refine hw_sto (v := .int .i64 m.sq) (by kernel_rfl) rfl rfl rfl H .z (Nat.le_of_ble_eq_true rfl) rfl (fun w1 HQ => ?_); (replace H : Hp w w1 (.blk _ _ (mgC (keepM 115 (bare0 m) m)) :: .blk _ _ (mgC mg0) :: .blk _ _ (mgC m) :: []) := HQ); refine hK _ _ ⟨[_, _], H⟩ ?_; clear hK K HQ; go_frame; have hS : HpW w _ w1 := ⟨[_, _], H⟩)
  (refine hw_take hS 6 (by decide +kernel) (by decide +kernel) (by decide +kernel) ⟨_, rfl, rfl, ?_, ?_, fun _ _ _ h => h, ?_⟩; rotate_left; (intro w _; go_simp; try with_reducible rfl); go_frame)
  (refine hw_one 7 (by decide +kernel) ⟨_, rfl, rfl, fun K hK => ?_⟩; refine hw_str (vs := reC m.re m.rf m.rv) rfl rfl rfl H s_Reply .z rfl (Nat.le_of_ble_eq_true rfl) rfl (fun w1 HQ => ?_); (replace H : Hp w w1 (.blk _ _ (mgC (keepM 114 (keepM 115 (bare0 m) m) m)) :: .blk _ _ (mgC mg0) :: .blk _ _ (mgC m) :: []) := HQ); refine hK _ _ ⟨[_, _], H⟩ ?_; clear hK K HQ; go_frame; have hS : HpW w _ w1 := ⟨[_, _], H⟩)
  refine wpAnyH_done (by kernel_rfl) ?_ _
  clear hS; go_wp2_with (first | ((with_reducible refine Hp.box H ?_); (first | refine ⟨rfl, mgC m, rfl, ?_⟩); (clear H; intro gm w1 H); go_frame) | ((with_reducible refine Hp.allo (ty := 34) H ?_); refine ⟨rfl, ?_⟩; refine ⟨_, z_look rfl, ?_⟩; (clear H; intro gr w1 H); go_frame) | ((with_reducible refine Hp.ld H ?_); refine ⟨rfl, ?_⟩; refine ⟨c_look rfl, ?_⟩; refine ⟨_, _, rfl, ?_⟩; (first | refine ⟨_, _, _, .z, ?_⟩ | refine ⟨_, _, _, .s .z, ?_⟩ | refine ⟨_, _, _, .s (.s .z), ?_⟩); refine ⟨_, rfl, ?_⟩; go_frame) | ((with_reducible refine Hp.lda H ?_); refine ⟨rfl, by kernel_rfl, ?_⟩; refine ⟨_, s_look rfl, ?_⟩; refine ⟨_, rfl, ?_⟩; (first | refine ⟨_, _, _, .z, ?_⟩ | refine ⟨_, _, _, .s .z, ?_⟩ | refine ⟨_, _, _, .s (.s .z), ?_⟩); refine ⟨rfl, ?_⟩; go_frame) | ((with_reducible refine Hp.lds H ?_); refine ⟨rfl, by kernel_rfl, ?_⟩; refine ⟨_, s_look rfl, ?_⟩; refine ⟨_, _, rfl, ?_⟩; (first | refine ⟨_, _, _, .z, ?_⟩ | refine ⟨_, _, _, .s .z, ?_⟩ | refine ⟨_, _, _, .s (.s .z), ?_⟩); (fail); go_frame) | (fail) | ((with_reducible refine Hp.sta H ?_); refine ⟨rfl, ?_⟩; refine ⟨_, s_look rfl, ?_⟩; refine ⟨_, rfl, _, rfl, rfl, ?_⟩; (first | refine ⟨_, _, _, .z, ?_⟩ | refine ⟨_, _, _, .s .z, ?_⟩ | refine ⟨_, _, _, .s (.s .z), ?_⟩); refine ⟨rfl, rfl, ?_⟩; (clear H; intro w1 H; simp only [List.set] at H); go_frame) | (fail) | ((with_reducible refine Hp.bdl (t := 34) (parts := [_, _, _]) H ?_); refine ⟨rfl, mgC (bare0 m), b_mo3 _ _ _, ?_⟩; go_frame) | (fail)); exact bodyPost_ret (results_c rfl rfl (H.var (by kernel_rfl) (t := 34) (cs := mgC (keepM 114 (keepM 115 (bare0 m) m) m)) (.s .z) s_Msg)) rfl ⟨rfl, H.below⟩
set_option maxHeartbeats 4000000 in
theorem only_3 (m : Mg) (w : World) (hk : m.k = 3) : Calls Tryd.prog 55 #[.agg (mgC m).toArray] w (RetV w (.agg (mgC (bareM m)).toArray)) := by
  have hB : bareM m = (keepM 105 (keepM 98 (bare0 m) m) m) := by unfold bareM; rw [hk]; rfl
  have b1 : (m.k == 1) = false := by rw [hk]; rfl
  have b2 : (m.k == 2) = false := by rw [hk]; rfl
  have b3 : (m.k == 3) = true := by rw [hk]; rfl
  have b4 : (m.k == 4) = false := by rw [hk]; rfl
  have b5 : (m.k == 5) = false := by rw [hk]; rfl
  have b6 : (m.k == 6) = false := by rw [hk]; rfl
  have b7 : (m.k == 7) = false := by rw [hk]; rfl
  have b8 : (m.k == 8) = false := by rw [hk]; rfl
  have b9 : (m.k == 9) = false := by rw [hk]; rfl
  have b10 : (m.k == 10) = false := by rw [hk]; rfl
  have b11 : (m.k == 11) = false := by rw [hk]; rfl
  have b12 : (m.k == 12) = false := by rw [hk]; rfl
  have b13 : (m.k == 13) = false := by rw [hk]; rfl
  have b14 : (m.k == 14) = false := by rw [hk]; rfl
  have b15 : (m.k == 15) = false := by rw [hk]; rfl
  clear hk
  rw [hB]
  clear hB
  have H := Hp.nil w; go_enter Tryd.func55, Tryd.ntmps55; go_wp2_with (first | ((with_reducible refine Hp.box H ?_); (first | refine ⟨rfl, mgC m, rfl, ?_⟩); (clear H; intro gm w1 H); go_frame) | ((with_reducible refine Hp.allo (ty := 34) H ?_); refine ⟨rfl, ?_⟩; refine ⟨_, z_look rfl, ?_⟩; (clear H; intro gr w1 H); go_frame) | ((with_reducible refine Hp.ld H ?_); refine ⟨rfl, ?_⟩; refine ⟨c_look rfl, ?_⟩; refine ⟨_, _, rfl, ?_⟩; (first | refine ⟨_, _, _, .z, ?_⟩ | refine ⟨_, _, _, .s .z, ?_⟩ | refine ⟨_, _, _, .s (.s .z), ?_⟩); refine ⟨_, rfl, ?_⟩; go_frame) | ((with_reducible refine Hp.lda H ?_); refine ⟨rfl, by kernel_rfl, ?_⟩; refine ⟨_, s_look rfl, ?_⟩; refine ⟨_, rfl, ?_⟩; (first | refine ⟨_, _, _, .z, ?_⟩ | refine ⟨_, _, _, .s .z, ?_⟩ | refine ⟨_, _, _, .s (.s .z), ?_⟩); refine ⟨rfl, ?_⟩; go_frame) | ((with_reducible refine Hp.lds H ?_); refine ⟨rfl, by kernel_rfl, ?_⟩; refine ⟨_, s_look rfl, ?_⟩; refine ⟨_, _, rfl, ?_⟩; (first | refine ⟨_, _, _, .z, ?_⟩ | refine ⟨_, _, _, .s .z, ?_⟩ | refine ⟨_, _, _, .s (.s .z), ?_⟩); (fail); go_frame) | (fail) | ((with_reducible refine Hp.sta H ?_); refine ⟨rfl, ?_⟩; refine ⟨_, s_look rfl, ?_⟩; refine ⟨_, rfl, _, rfl, rfl, ?_⟩; (first | refine ⟨_, _, _, .z, ?_⟩ | refine ⟨_, _, _, .s .z, ?_⟩ | refine ⟨_, _, _, .s (.s .z), ?_⟩); refine ⟨rfl, rfl, ?_⟩; (clear H; intro w1 H; simp only [List.set] at H); go_frame) | (fail) | ((with_reducible refine Hp.bdl (t := 34) (parts := [_, _, _]) H ?_); refine ⟨rfl, mgC (bare0 m), b_mo3 _ _ _, ?_⟩; go_frame) | (fail))
  refine hw_start [_, _] [_] H (by kernel_rfl) (fun w1 H => ?_); have hS : HpW w _ w1 := ⟨[_, _], H⟩; simp only [List.cons_append, List.nil_append] at H
  (refine hw_take hS 0 (by decide +kernel) (by decide +kernel) (by decide +kernel) ⟨_, rfl, rfl, ?_, ?_, fun _ _ _ h => h, ?_⟩; rotate_left; (intro w _; go_simp; try with_reducible rfl); go_frame)
  (refine hw_take hS 1 (by decide +kernel) (by decide +kernel) (by decide +kernel) ⟨_, rfl, rfl, _, fun w h => ex_load rfl rfl (hw_lds (by kernel_rfl) s_Ballot (.z) (vs := baC m.br m.bp) rfl rfl w h), fun _ _ _ h => h, ?_⟩; go_frame)
  (refine hw_take hS 2 (by decide +kernel) (by decide +kernel) (by decide +kernel) ⟨_, rfl, rfl, ?_, ?_, fun _ _ _ h => h, ?_⟩; rotate_left; (intro w _; go_simp; try with_reducible rfl); go_frame)
  (refine hw_take hS 3 (by decide +kernel) (by decide +kernel) (by decide +kernel) ⟨_, rfl, rfl, _, fun w h => ex_load rfl rfl (hw_ld (by kernel_rfl) (.z) rfl w h), fun _ _ _ h => h, ?_⟩; go_frame)
  (refine hw_take hS 4 (by decide +kernel) (by decide +kernel) (by decide +kernel) ⟨_, rfl, rfl, ?_, ?_, fun _ _ _ h => h, ?_⟩; rotate_left; (intro w _; go_simp; try with_reducible rfl); go_frame)
  (refine hw_one 5 (by decide +kernel) ⟨_, rfl, rfl, fun K hK => ?_⟩; refine hw_str (vs := baC m.br m.bp) rfl rfl rfl H s_Ballot .z rfl (Nat.le_of_ble_eq_true rfl) rfl (fun w1 HQ => ?_); (replace H : Hp w w1 (.blk _ _ (mgC (keepM 98 (bare0 m) m)) :: .blk _ _ (mgC mg0) :: .blk _ _ (mgC m) :: []) := HQ); refine hK _ _ ⟨[_, _], H⟩ ?_; clear hK K HQ; go_frame; have hS : HpW w _ w1 := ⟨[_, _], H⟩)
  (refine hw_take hS 6 (by decide +kernel) (by decide +kernel) (by decide +kernel) ⟨_, rfl, rfl, ?_, ?_, fun _ _ _ h => h, ?_⟩; rotate_left; (intro w _; go_simp; try with_reducible rfl); go_frame)
  (refine hw_one 7 (by decide +kernel) ⟨_, rfl, rfl, fun K hK => ?_⟩; refine hw_sto (v := .int .i64 m.ix) (by kernel_rfl) rfl rfl rfl H .z (Nat.le_of_ble_eq_true rfl) rfl (fun w1 HQ => ?_); (replace H : Hp w w1 (.blk _ _ (mgC (keepM 105 (keepM 98 (bare0 m) m) m)) :: .blk _ _ (mgC mg0) :: .blk _ _ (mgC m) :: []) := HQ); refine hK _ _ ⟨[_, _], H⟩ ?_; clear hK K HQ; go_frame; have hS : HpW w _ w1 := ⟨[_, _], H⟩)
  refine wpAnyH_done (by kernel_rfl) ?_ _
  clear hS; go_wp2_with (first | ((with_reducible refine Hp.box H ?_); (first | refine ⟨rfl, mgC m, rfl, ?_⟩); (clear H; intro gm w1 H); go_frame) | ((with_reducible refine Hp.allo (ty := 34) H ?_); refine ⟨rfl, ?_⟩; refine ⟨_, z_look rfl, ?_⟩; (clear H; intro gr w1 H); go_frame) | ((with_reducible refine Hp.ld H ?_); refine ⟨rfl, ?_⟩; refine ⟨c_look rfl, ?_⟩; refine ⟨_, _, rfl, ?_⟩; (first | refine ⟨_, _, _, .z, ?_⟩ | refine ⟨_, _, _, .s .z, ?_⟩ | refine ⟨_, _, _, .s (.s .z), ?_⟩); refine ⟨_, rfl, ?_⟩; go_frame) | ((with_reducible refine Hp.lda H ?_); refine ⟨rfl, by kernel_rfl, ?_⟩; refine ⟨_, s_look rfl, ?_⟩; refine ⟨_, rfl, ?_⟩; (first | refine ⟨_, _, _, .z, ?_⟩ | refine ⟨_, _, _, .s .z, ?_⟩ | refine ⟨_, _, _, .s (.s .z), ?_⟩); refine ⟨rfl, ?_⟩; go_frame) | ((with_reducible refine Hp.lds H ?_); refine ⟨rfl, by kernel_rfl, ?_⟩; refine ⟨_, s_look rfl, ?_⟩; refine ⟨_, _, rfl, ?_⟩; (first | refine ⟨_, _, _, .z, ?_⟩ | refine ⟨_, _, _, .s .z, ?_⟩ | refine ⟨_, _, _, .s (.s .z), ?_⟩); (fail); go_frame) | (fail) | ((with_reducible refine Hp.sta H ?_); refine ⟨rfl, ?_⟩; refine ⟨_, s_look rfl, ?_⟩; refine ⟨_, rfl, _, rfl, rfl, ?_⟩; (first | refine ⟨_, _, _, .z, ?_⟩ | refine ⟨_, _, _, .s .z, ?_⟩ | refine ⟨_, _, _, .s (.s .z), ?_⟩); refine ⟨rfl, rfl, ?_⟩; (clear H; intro w1 H; simp only [List.set] at H); go_frame) | (fail) | ((with_reducible refine Hp.bdl (t := 34) (parts := [_, _, _]) H ?_); refine ⟨rfl, mgC (bare0 m), b_mo3 _ _ _, ?_⟩; go_frame) | (fail)); exact bodyPost_ret (results_c rfl rfl (H.var (by kernel_rfl) (t := 34) (cs := mgC (keepM 105 (keepM 98 (bare0 m) m) m)) (.s .z) s_Msg)) rfl ⟨rfl, H.below⟩
set_option maxHeartbeats 4000000 in
theorem only_4 (m : Mg) (w : World) (hk : m.k = 4) : Calls Tryd.prog 55 #[.agg (mgC m).toArray] w (RetV w (.agg (mgC (bareM m)).toArray)) := by
  have hB : bareM m = (keepM 108 (keepM 99 (keepM 122 (keepM 98 (bare0 m) m) m) m) m) := by unfold bareM; rw [hk]; rfl
  have b1 : (m.k == 1) = false := by rw [hk]; rfl
  have b2 : (m.k == 2) = false := by rw [hk]; rfl
  have b3 : (m.k == 3) = false := by rw [hk]; rfl
  have b4 : (m.k == 4) = true := by rw [hk]; rfl
  have b5 : (m.k == 5) = false := by rw [hk]; rfl
  have b6 : (m.k == 6) = false := by rw [hk]; rfl
  have b7 : (m.k == 7) = false := by rw [hk]; rfl
  have b8 : (m.k == 8) = false := by rw [hk]; rfl
  have b9 : (m.k == 9) = false := by rw [hk]; rfl
  have b10 : (m.k == 10) = false := by rw [hk]; rfl
  have b11 : (m.k == 11) = false := by rw [hk]; rfl
  have b12 : (m.k == 12) = false := by rw [hk]; rfl
  have b13 : (m.k == 13) = false := by rw [hk]; rfl
  have b14 : (m.k == 14) = false := by rw [hk]; rfl
  have b15 : (m.k == 15) = false := by rw [hk]; rfl
  clear hk
  rw [hB]
  clear hB
  have H := Hp.nil w; go_enter Tryd.func55, Tryd.ntmps55; go_wp2_with (first | ((with_reducible refine Hp.box H ?_); (first | refine ⟨rfl, mgC m, rfl, ?_⟩); (clear H; intro gm w1 H); go_frame) | ((with_reducible refine Hp.allo (ty := 34) H ?_); refine ⟨rfl, ?_⟩; refine ⟨_, z_look rfl, ?_⟩; (clear H; intro gr w1 H); go_frame) | ((with_reducible refine Hp.ld H ?_); refine ⟨rfl, ?_⟩; refine ⟨c_look rfl, ?_⟩; refine ⟨_, _, rfl, ?_⟩; (first | refine ⟨_, _, _, .z, ?_⟩ | refine ⟨_, _, _, .s .z, ?_⟩ | refine ⟨_, _, _, .s (.s .z), ?_⟩); refine ⟨_, rfl, ?_⟩; go_frame) | ((with_reducible refine Hp.lda H ?_); refine ⟨rfl, by kernel_rfl, ?_⟩; refine ⟨_, s_look rfl, ?_⟩; refine ⟨_, rfl, ?_⟩; (first | refine ⟨_, _, _, .z, ?_⟩ | refine ⟨_, _, _, .s .z, ?_⟩ | refine ⟨_, _, _, .s (.s .z), ?_⟩); refine ⟨rfl, ?_⟩; go_frame) | ((with_reducible refine Hp.lds H ?_); refine ⟨rfl, by kernel_rfl, ?_⟩; refine ⟨_, s_look rfl, ?_⟩; refine ⟨_, _, rfl, ?_⟩; (first | refine ⟨_, _, _, .z, ?_⟩ | refine ⟨_, _, _, .s .z, ?_⟩ | refine ⟨_, _, _, .s (.s .z), ?_⟩); (fail); go_frame) | (fail) | ((with_reducible refine Hp.sta H ?_); refine ⟨rfl, ?_⟩; refine ⟨_, s_look rfl, ?_⟩; refine ⟨_, rfl, _, rfl, rfl, ?_⟩; (first | refine ⟨_, _, _, .z, ?_⟩ | refine ⟨_, _, _, .s .z, ?_⟩ | refine ⟨_, _, _, .s (.s .z), ?_⟩); refine ⟨rfl, rfl, ?_⟩; (clear H; intro w1 H; simp only [List.set] at H); go_frame) | (fail) | ((with_reducible refine Hp.bdl (t := 34) (parts := [_, _, _]) H ?_); refine ⟨rfl, mgC (bare0 m), b_mo3 _ _ _, ?_⟩; go_frame) | (fail))
  refine hw_start [_, _] [_] H (by kernel_rfl) (fun w1 H => ?_); have hS : HpW w _ w1 := ⟨[_, _], H⟩; simp only [List.cons_append, List.nil_append] at H
  (refine hw_take hS 0 (by decide +kernel) (by decide +kernel) (by decide +kernel) ⟨_, rfl, rfl, ?_, ?_, fun _ _ _ h => h, ?_⟩; rotate_left; (intro w _; go_simp; try with_reducible rfl); go_frame)
  (refine hw_take hS 1 (by decide +kernel) (by decide +kernel) (by decide +kernel) ⟨_, rfl, rfl, _, fun w h => ex_load rfl rfl (hw_lds (by kernel_rfl) s_Ballot (.z) (vs := baC m.br m.bp) rfl rfl w h), fun _ _ _ h => h, ?_⟩; go_frame)
  (refine hw_take hS 2 (by decide +kernel) (by decide +kernel) (by decide +kernel) ⟨_, rfl, rfl, ?_, ?_, fun _ _ _ h => h, ?_⟩; rotate_left; (intro w _; go_simp; try with_reducible rfl); go_frame)
  (refine hw_take hS 3 (by decide +kernel) (by decide +kernel) (by decide +kernel) ⟨_, rfl, rfl, _, fun w h => ex_load rfl rfl (hw_ld (by kernel_rfl) (.z) rfl w h), fun _ _ _ h => h, ?_⟩; go_frame)
  (refine hw_take hS 4 (by decide +kernel) (by decide +kernel) (by decide +kernel) ⟨_, rfl, rfl, ?_, ?_, fun _ _ _ h => h, ?_⟩; rotate_left; (intro w _; go_simp; try with_reducible rfl); go_frame)
  (refine hw_take hS 5 (by decide +kernel) (by decide +kernel) (by decide +kernel) ⟨_, rfl, rfl, _, fun w h => ex_load rfl rfl (hw_ld (by kernel_rfl) (.z) rfl w h), fun _ _ _ h => h, ?_⟩; go_frame)
  (refine hw_take hS 6 (by decide +kernel) (by decide +kernel) (by decide +kernel) ⟨_, rfl, rfl, ?_, ?_, fun _ _ _ h => h, ?_⟩; rotate_left; (intro w _; go_simp; try with_reducible rfl); go_frame)
  (refine hw_take hS 7 (by decide +kernel) (by decide +kernel) (by decide +kernel) ⟨_, rfl, rfl, _, fun w h => ex_load rfl rfl (hw_ld (by kernel_rfl) (.z) rfl w h), fun _ _ _ h => h, ?_⟩; go_frame)
  (refine hw_take hS 8 (by decide +kernel) (by decide +kernel) (by decide +kernel) ⟨_, rfl, rfl, ?_, ?_, fun _ _ _ h => h, ?_⟩; rotate_left; (intro w _; go_simp; try with_reducible rfl); go_frame)
  (refine hw_one 9 (by decide +kernel) ⟨_, rfl, rfl, fun K hK => ?_⟩; refine hw_str (vs := baC m.br m.bp) rfl rfl rfl H s_Ballot .z rfl (Nat.le_of_ble_eq_true rfl) rfl (fun w1 HQ => ?_); (replace H : Hp w w1 (.blk _ _ (mgC (keepM 98 (bare0 m) m)) :: .blk _ _ (mgC mg0) :: .blk _ _ (mgC m) :: []) := HQ); refine hK _ _ ⟨[_, _], H⟩ ?_; clear hK K HQ; go_frame; have hS : HpW w _ w1 := ⟨[_, _], H⟩)
  (refine hw_take hS 10 (by decide +kernel) (by decide +kernel) (by decide +kernel) ⟨_, rfl, rfl, ?_, ?_, fun _ _ _ h => h, ?_⟩; rotate_left; (intro w _; go_simp; try with_reducible rfl); go_frame)
  (refine hw_one 11 (by decide +kernel) ⟨_, rfl, rfl, fun K hK => ?_⟩; refine hw_sto (v := .int .i64 m.ix) (by kernel_rfl) rfl rfl rfl H .z (Nat.le_of_ble_eq_true rfl) rfl (fun w1 HQ => ?_); (replace H : Hp w w1 (.blk _ _ (mgC (keepM 122 (keepM 98 (bare0 m) m) m)) :: .blk _ _ (mgC mg0) :: .blk _ _ (mgC m) :: []) := HQ); refine hK _ _ ⟨[_, _], H⟩ ?_; clear hK K HQ; go_frame; have hS : HpW w _ w1 := ⟨[_, _], H⟩)
  (refine hw_take hS 12 (by decide +kernel) (by decide +kernel) (by decide +kernel) ⟨_, rfl, rfl, ?_, ?_, fun _ _ _ h => h, ?_⟩; rotate_left; (intro w _; go_simp; try with_reducible rfl); go_frame)
  (refine hw_one 13 (by decide +kernel) ⟨_, rfl, rfl, fun K hK => ?_⟩; refine hw_sto (v := .int .i64 m.cm) (by kernel_rfl) rfl rfl rfl H .z (Nat.le_of_ble_eq_true rfl) rfl (fun w1 HQ => ?_); (replace H : Hp w w1 (.blk _ _ (mgC (keepM 99 (keepM 122 (keepM 98 (bare0 m) m) m) m)) :: .blk _ _ (mgC mg0) :: .blk _ _ (mgC m) :: []) := HQ); refine hK _ _ ⟨[_, _], H⟩ ?_; clear hK K HQ; go_frame; have hS : HpW w _ w1 := ⟨[_, _], H⟩)
  (refine hw_take hS 14 (by decide +kernel) (by decide +kernel) (by decide +kernel) ⟨_, rfl, rfl, ?_, ?_, fun _ _ _ h => h, ?_⟩; rotate_left; (intro w _; go_simp; try with_reducible rfl); go_frame)
  (refine hw_one 15 (by decide +kernel) ⟨_, rfl, rfl, fun K hK => ?_⟩; refine hw_sto (v := .slice m.rA m.rn m.rc) (by kernel_rfl) rfl rfl rfl H .z (Nat.le_of_ble_eq_true rfl) rfl (fun w1 HQ => ?_); (replace H : Hp w w1 (.blk _ _ (mgC (keepM 108 (keepM 99 (keepM 122 (keepM 98 (bare0 m) m) m) m) m)) :: .blk _ _ (mgC mg0) :: .blk _ _ (mgC m) :: []) := HQ); refine hK _ _ ⟨[_, _], H⟩ ?_; clear hK K HQ; go_frame; have hS : HpW w _ w1 := ⟨[_, _], H⟩)
  refine wpAnyH_done (by kernel_rfl) ?_ _
  clear hS; go_wp2_with (first | ((with_reducible refine Hp.box H ?_); (first | refine ⟨rfl, mgC m, rfl, ?_⟩); (clear H; intro gm w1 H); go_frame) | ((with_reducible refine Hp.allo (ty := 34) H ?_); refine ⟨rfl, ?_⟩; refine ⟨_, z_look rfl, ?_⟩; (clear H; intro gr w1 H); go_frame) | ((with_reducible refine Hp.ld H ?_); refine ⟨rfl, ?_⟩; refine ⟨c_look rfl, ?_⟩; refine ⟨_, _, rfl, ?_⟩; (first | refine ⟨_, _, _, .z, ?_⟩ | refine ⟨_, _, _, .s .z, ?_⟩ | refine ⟨_, _, _, .s (.s .z), ?_⟩); refine ⟨_, rfl, ?_⟩; go_frame) | ((with_reducible refine Hp.lda H ?_); refine ⟨rfl, by kernel_rfl, ?_⟩; refine ⟨_, s_look rfl, ?_⟩; refine ⟨_, rfl, ?_⟩; (first | refine ⟨_, _, _, .z, ?_⟩ | refine ⟨_, _, _, .s .z, ?_⟩ | refine ⟨_, _, _, .s (.s .z), ?_⟩); refine ⟨rfl, ?_⟩; go_frame) | ((with_reducible refine Hp.lds H ?_); refine ⟨rfl, by kernel_rfl, ?_⟩; refine ⟨_, s_look rfl, ?_⟩; refine ⟨_, _, rfl, ?_⟩; (first | refine ⟨_, _, _, .z, ?_⟩ | refine ⟨_, _, _, .s .z, ?_⟩ | refine ⟨_, _, _, .s (.s .z), ?_⟩); (fail); go_frame) | (fail) | ((with_reducible refine Hp.sta H ?_); refine ⟨rfl, ?_⟩; refine ⟨_, s_look rfl, ?_⟩; refine ⟨_, rfl, _, rfl, rfl, ?_⟩; (first | refine ⟨_, _, _, .z, ?_⟩ | refine ⟨_, _, _, .s .z, ?_⟩ | refine ⟨_, _, _, .s (.s .z), ?_⟩); refine ⟨rfl, rfl, ?_⟩; (clear H; intro w1 H; simp only [List.set] at H); go_frame) | (fail) | ((with_reducible refine Hp.bdl (t := 34) (parts := [_, _, _]) H ?_); refine ⟨rfl, mgC (bare0 m), b_mo3 _ _ _, ?_⟩; go_frame) | (fail)); exact bodyPost_ret (results_c rfl rfl (H.var (by kernel_rfl) (t := 34) (cs := mgC (keepM 108 (keepM 99 (keepM 122 (keepM 98 (bare0 m) m) m) m) m)) (.s .z) s_Msg)) rfl ⟨rfl, H.below⟩
set_option maxHeartbeats 4000000 in
theorem only_5 (m : Mg) (w : World) (hk : m.k = 5) : Calls Tryd.prog 55 #[.agg (mgC m).toArray] w (RetV w (.agg (mgC (bareM m)).toArray)) := by
  have hB : bareM m = (keepM 98 (bare0 m) m) := by unfold bareM; rw [hk]; rfl
  have b1 : (m.k == 1) = false := by rw [hk]; rfl
  have b2 : (m.k == 2) = false := by rw [hk]; rfl
  have b3 : (m.k == 3) = false := by rw [hk]; rfl
  have b4 : (m.k == 4) = false := by rw [hk]; rfl
  have b5 : (m.k == 5) = true := by rw [hk]; rfl
  have b6 : (m.k == 6) = false := by rw [hk]; rfl
  have b7 : (m.k == 7) = false := by rw [hk]; rfl
  have b8 : (m.k == 8) = false := by rw [hk]; rfl
  have b9 : (m.k == 9) = false := by rw [hk]; rfl
  have b10 : (m.k == 10) = false := by rw [hk]; rfl
  have b11 : (m.k == 11) = false := by rw [hk]; rfl
  have b12 : (m.k == 12) = false := by rw [hk]; rfl
  have b13 : (m.k == 13) = false := by rw [hk]; rfl
  have b14 : (m.k == 14) = false := by rw [hk]; rfl
  have b15 : (m.k == 15) = false := by rw [hk]; rfl
  clear hk
  rw [hB]
  clear hB
  have H := Hp.nil w; go_enter Tryd.func55, Tryd.ntmps55; go_wp2_with (first | ((with_reducible refine Hp.box H ?_); (first | refine ⟨rfl, mgC m, rfl, ?_⟩); (clear H; intro gm w1 H); go_frame) | ((with_reducible refine Hp.allo (ty := 34) H ?_); refine ⟨rfl, ?_⟩; refine ⟨_, z_look rfl, ?_⟩; (clear H; intro gr w1 H); go_frame) | ((with_reducible refine Hp.ld H ?_); refine ⟨rfl, ?_⟩; refine ⟨c_look rfl, ?_⟩; refine ⟨_, _, rfl, ?_⟩; (first | refine ⟨_, _, _, .z, ?_⟩ | refine ⟨_, _, _, .s .z, ?_⟩ | refine ⟨_, _, _, .s (.s .z), ?_⟩); refine ⟨_, rfl, ?_⟩; go_frame) | ((with_reducible refine Hp.lda H ?_); refine ⟨rfl, by kernel_rfl, ?_⟩; refine ⟨_, s_look rfl, ?_⟩; refine ⟨_, rfl, ?_⟩; (first | refine ⟨_, _, _, .z, ?_⟩ | refine ⟨_, _, _, .s .z, ?_⟩ | refine ⟨_, _, _, .s (.s .z), ?_⟩); refine ⟨rfl, ?_⟩; go_frame) | ((with_reducible refine Hp.lds H ?_); refine ⟨rfl, by kernel_rfl, ?_⟩; refine ⟨_, s_look rfl, ?_⟩; refine ⟨_, _, rfl, ?_⟩; (first | refine ⟨_, _, _, .z, ?_⟩ | refine ⟨_, _, _, .s .z, ?_⟩ | refine ⟨_, _, _, .s (.s .z), ?_⟩); refine ⟨baC m.br m.bp, rfl, rfl, ?_⟩; go_frame) | (fail) | ((with_reducible refine Hp.sta H ?_); refine ⟨rfl, ?_⟩; refine ⟨_, s_look rfl, ?_⟩; refine ⟨_, rfl, _, rfl, rfl, ?_⟩; (first | refine ⟨_, _, _, .z, ?_⟩ | refine ⟨_, _, _, .s .z, ?_⟩ | refine ⟨_, _, _, .s (.s .z), ?_⟩); refine ⟨rfl, rfl, ?_⟩; (clear H; intro w1 H; simp only [List.set] at H); go_frame) | ((with_reducible refine Hp.str H ?_); refine ⟨rfl, ?_⟩; refine ⟨_, s_look rfl, ?_⟩; refine ⟨_, _, rfl, baC m.br m.bp, rfl, rfl, ?_⟩; (first | refine ⟨_, _, _, .z, ?_⟩ | refine ⟨_, _, _, .s .z, ?_⟩ | refine ⟨_, _, _, .s (.s .z), ?_⟩); refine ⟨rfl, mgC (keepM 98 (bare0 m) m), rfl, _, rfl, Nat.le_of_ble_eq_true rfl, ?_⟩; (clear H; intro w1 H; simp only [List.set_cons_succ, List.set_cons_zero] at H); go_frame) | ((with_reducible refine Hp.bdl (t := 34) (parts := [_, _, _]) H ?_); refine ⟨rfl, mgC (bare0 m), b_mo3 _ _ _, ?_⟩; go_frame) | (fail))
  have hS := True.intro
  clear hS; go_wp2_with (first | ((with_reducible refine Hp.box H ?_); (first | refine ⟨rfl, mgC m, rfl, ?_⟩); (clear H; intro gm w1 H); go_frame) | ((with_reducible refine Hp.allo (ty := 34) H ?_); refine ⟨rfl, ?_⟩; refine ⟨_, z_look rfl, ?_⟩; (clear H; intro gr w1 H); go_frame) | ((with_reducible refine Hp.ld H ?_); refine ⟨rfl, ?_⟩; refine ⟨c_look rfl, ?_⟩; refine ⟨_, _, rfl, ?_⟩; (first | refine ⟨_, _, _, .z, ?_⟩ | refine ⟨_, _, _, .s .z, ?_⟩ | refine ⟨_, _, _, .s (.s .z), ?_⟩); refine ⟨_, rfl, ?_⟩; go_frame) | ((with_reducible refine Hp.lda H ?_); refine ⟨rfl, by kernel_rfl, ?_⟩; refine ⟨_, s_look rfl, ?_⟩; refine ⟨_, rfl, ?_⟩; (first | refine ⟨_, _, _, .z, ?_⟩ | refine ⟨_, _, _, .s .z, ?_⟩ | refine ⟨_, _, _, .s (.s .z), ?_⟩); refine ⟨rfl, ?_⟩; go_frame) | ((with_reducible refine Hp.lds H ?_); refine ⟨rfl, by kernel_rfl, ?_⟩; refine ⟨_, s_look rfl, ?_⟩; refine ⟨_, _, rfl, ?_⟩; (first | refine ⟨_, _, _, .z, ?_⟩ | refine ⟨_, _, _, .s .z, ?_⟩ | refine ⟨_, _, _, .s (.s .z), ?_⟩); refine ⟨baC m.br m.bp, rfl, rfl, ?_⟩; go_frame) | (fail) | ((with_reducible refine Hp.sta H ?_); refine ⟨rfl, ?_⟩; refine ⟨_, s_look rfl, ?_⟩; refine ⟨_, rfl, _, rfl, rfl, ?_⟩; (first | refine ⟨_, _, _, .z, ?_⟩ | refine ⟨_, _, _, .s .z, ?_⟩ | refine ⟨_, _, _, .s (.s .z), ?_⟩); refine ⟨rfl, rfl, ?_⟩; (clear H; intro w1 H; simp only [List.set] at H); go_frame) | ((with_reducible refine Hp.str H ?_); refine ⟨rfl, ?_⟩; refine ⟨_, s_look rfl, ?_⟩; refine ⟨_, _, rfl, baC m.br m.bp, rfl, rfl, ?_⟩; (first | refine ⟨_, _, _, .z, ?_⟩ | refine ⟨_, _, _, .s .z, ?_⟩ | refine ⟨_, _, _, .s (.s .z), ?_⟩); refine ⟨rfl, mgC (keepM 98 (bare0 m) m), rfl, _, rfl, Nat.le_of_ble_eq_true rfl, ?_⟩; (clear H; intro w1 H; simp only [List.set_cons_succ, List.set_cons_zero] at H); go_frame) | ((with_reducible refine Hp.bdl (t := 34) (parts := [_, _, _]) H ?_); refine ⟨rfl, mgC (bare0 m), b_mo3 _ _ _, ?_⟩; go_frame) | (fail)); exact bodyPost_ret (results_c rfl rfl (H.var (by kernel_rfl) (t := 34) (cs := mgC (keepM 98 (bare0 m) m)) (.s .z) s_Msg)) rfl ⟨rfl, H.below⟩
set_option maxHeartbeats 4000000 in
theorem only_6 (m : Mg) (w : World) (hk : m.k = 6) : Calls Tryd.prog 55 #[.agg (mgC m).toArray] w (RetV w (.agg (mgC (bareM m)).toArray)) := by
  have hB : bareM m = (keepM 101 (keepM 99 (keepM 105 (keepM 98 (bare0 m) m) m) m) m) := by unfold bareM; rw [hk]; rfl
  have b1 : (m.k == 1) = false := by rw [hk]; rfl
  have b2 : (m.k == 2) = false := by rw [hk]; rfl
  have b3 : (m.k == 3) = false := by rw [hk]; rfl
  have b4 : (m.k == 4) = false := by rw [hk]; rfl
  have b5 : (m.k == 5) = false := by rw [hk]; rfl
  have b6 : (m.k == 6) = true := by rw [hk]; rfl
  have b7 : (m.k == 7) = false := by rw [hk]; rfl
  have b8 : (m.k == 8) = false := by rw [hk]; rfl
  have b9 : (m.k == 9) = false := by rw [hk]; rfl
  have b10 : (m.k == 10) = false := by rw [hk]; rfl
  have b11 : (m.k == 11) = false := by rw [hk]; rfl
  have b12 : (m.k == 12) = false := by rw [hk]; rfl
  have b13 : (m.k == 13) = false := by rw [hk]; rfl
  have b14 : (m.k == 14) = false := by rw [hk]; rfl
  have b15 : (m.k == 15) = false := by rw [hk]; rfl
  clear hk
  rw [hB]
  clear hB
  have H := Hp.nil w; go_enter Tryd.func55, Tryd.ntmps55; go_wp2_with (first | ((with_reducible refine Hp.box H ?_); (first | refine ⟨rfl, mgC m, rfl, ?_⟩); (clear H; intro gm w1 H); go_frame) | ((with_reducible refine Hp.allo (ty := 34) H ?_); refine ⟨rfl, ?_⟩; refine ⟨_, z_look rfl, ?_⟩; (clear H; intro gr w1 H); go_frame) | ((with_reducible refine Hp.ld H ?_); refine ⟨rfl, ?_⟩; refine ⟨c_look rfl, ?_⟩; refine ⟨_, _, rfl, ?_⟩; (first | refine ⟨_, _, _, .z, ?_⟩ | refine ⟨_, _, _, .s .z, ?_⟩ | refine ⟨_, _, _, .s (.s .z), ?_⟩); refine ⟨_, rfl, ?_⟩; go_frame) | ((with_reducible refine Hp.lda H ?_); refine ⟨rfl, by kernel_rfl, ?_⟩; refine ⟨_, s_look rfl, ?_⟩; refine ⟨_, rfl, ?_⟩; (first | refine ⟨_, _, _, .z, ?_⟩ | refine ⟨_, _, _, .s .z, ?_⟩ | refine ⟨_, _, _, .s (.s .z), ?_⟩); refine ⟨rfl, ?_⟩; go_frame) | ((with_reducible refine Hp.lds H ?_); refine ⟨rfl, by kernel_rfl, ?_⟩; refine ⟨_, s_look rfl, ?_⟩; refine ⟨_, _, rfl, ?_⟩; (first | refine ⟨_, _, _, .z, ?_⟩ | refine ⟨_, _, _, .s .z, ?_⟩ | refine ⟨_, _, _, .s (.s .z), ?_⟩); (fail); go_frame) | (fail) | ((with_reducible refine Hp.sta H ?_); refine ⟨rfl, ?_⟩; refine ⟨_, s_look rfl, ?_⟩; refine ⟨_, rfl, _, rfl, rfl, ?_⟩; (first | refine ⟨_, _, _, .z, ?_⟩ | refine ⟨_, _, _, .s .z, ?_⟩ | refine ⟨_, _, _, .s (.s .z), ?_⟩); refine ⟨rfl, rfl, ?_⟩; (clear H; intro w1 H; simp only [List.set] at H); go_frame) | (fail) | ((with_reducible refine Hp.bdl (t := 34) (parts := [_, _, _]) H ?_); refine ⟨rfl, mgC (bare0 m), b_mo3 _ _ _, ?_⟩; go_frame) | (fail))
  refine hw_start [_, _] [_] H (by kernel_rfl) (fun w1 H => ?_); have hS : HpW w _ w1 := ⟨[_, _], H⟩; simp only [List.cons_append, List.nil_append] at H
  (refine hw_take hS 0 (by decide +kernel) (by decide +kernel) (by decide +kernel) ⟨_, rfl, rfl, ?_, ?_, fun _ _ _ h => h, ?_⟩; rotate_left; (intro w _; go_simp; try with_reducible rfl); go_frame)
  (refine hw_take hS 1 (by decide +kernel) (by decide +kernel) (by decide +kernel) ⟨_, rfl, rfl, _, fun w h => ex_load rfl rfl (hw_lds (by kernel_rfl) s_Ballot (.z) (vs := baC m.br m.bp) rfl rfl w h), fun _ _ _ h => h, ?_⟩; go_frame)
  (refine hw_take hS 2 (by decide +kernel) (by decide +kernel) (by decide +kernel) ⟨_, rfl, rfl, ?_, ?_, fun _ _ _ h => h, ?_⟩; rotate_left; (intro w _; go_simp; try with_reducible rfl); go_frame)
  (refine hw_take hS 3 (by decide +kernel) (by decide +kernel) (by decide +kernel) ⟨_, rfl, rfl, _, fun w h => ex_load rfl rfl (hw_ld (by kernel_rfl) (.z) rfl w h), fun _ _ _ h => h, ?_⟩; go_frame)
  (refine hw_take hS 4 (by decide +kernel) (by decide +kernel) (by decide +kernel) ⟨_, rfl, rfl, ?_, ?_, fun _ _ _ h => h, ?_⟩; rotate_left; (intro w _; go_simp; try with_reducible rfl); go_frame)
  (refine hw_take hS 5 (by decide +kernel) (by decide +kernel) (by decide +kernel) ⟨_, rfl, rfl, _, fun w h => ex_load rfl rfl (hw_ld (by kernel_rfl) (.z) rfl w h), fun _ _ _ h => h, ?_⟩; go_frame)
  (refine hw_take hS 6 (by decide +kernel) (by decide +kernel) (by decide +kernel) ⟨_, rfl, rfl, ?_, ?_, fun _ _ _ h => h, ?_⟩; rotate_left; (intro w _; go_simp; try with_reducible rfl); go_frame)
  (refine hw_take hS 7 (by decide +kernel) (by decide +kernel) (by decide +kernel) ⟨_, rfl, rfl, _, fun w h => ex_load rfl rfl (hw_lds (by kernel_rfl) s_Entry (.z) (vs := enC m.e) rfl rfl w h), fun _ _ _ h => h, ?_⟩; go_frame)
  (refine hw_take hS 8 (by decide +kernel) (by decide +kernel) (by decide +kernel) ⟨_, rfl, rfl, ?_, ?_, fun _ _ _ h => h, ?_⟩; rotate_left; (intro w _; go_simp; try with_reducible rfl); go_frame)
  (refine hw_one 9 (by decide +kernel) ⟨_, rfl, rfl, fun K hK => ?_⟩; refine hw_str (vs := baC m.br m.bp) rfl rfl rfl H s_Ballot .z rfl (Nat.le_of_ble_eq_true rfl) rfl (fun w1 HQ => ?_); (replace H : Hp w w1 (.blk _ _ (mgC (keepM 98 (bare0 m) m)) :: .blk _ _ (mgC mg0) :: .blk _ _ (mgC m) :: []) := HQ); refine hK _ _ ⟨[_, _], H⟩ ?_; clear hK K HQ; go_frame; have hS : HpW w _ w1 := ⟨[_, _], H⟩)
  (refine hw_take hS 10 (by decide +kernel) (by decide +kernel) (by decide +kernel) ⟨_, rfl, rfl, ?_, ?_, fun _ _ _ h => h, ?_⟩; rotate_left; (intro w _; go_simp; try with_reducible rfl); go_frame)
  (refine hw_one 11 (by decide +kernel) ⟨_, rfl, rfl, fun K hK => ?_⟩; refine hw_sto (v := .int .i64 m.ix) (by kernel_rfl) rfl rfl rfl H .z (Nat.le_of_ble_eq_true rfl) rfl (fun w1 HQ => ?_); (replace H : Hp w w1 (.blk _ _ (mgC (keepM 105 (keepM 98 (bare0 m) m) m)) :: .blk _ _ (mgC mg0) :: .blk _ _ (mgC m) :: []) := HQ); refine hK _ _ ⟨[_, _], H⟩ ?_; clear hK K HQ; go_frame; have hS : HpW w _ w1 := ⟨[_, _], H⟩)
  (refine hw_take hS 12 (by decide +kernel) (by decide +kernel) (by decide +kernel) ⟨_, rfl, rfl, ?_, ?_, fun _ _ _ h => h, ?_⟩; rotate_left; (intro w _; go_simp; try with_reducible rfl); go_frame)
  (refine hw_one 13 (by decide +kernel) ⟨_, rfl, rfl, fun K hK => ?_⟩; refine hw_sto (v := .int .i64 m.cm) (by kernel_rfl) rfl rfl rfl H .z (Nat.le_of_ble_eq_true rfl) rfl (fun w1 HQ => ?_); (replace H : Hp w w1 (.blk _ _ (mgC (keepM 99 (keepM 105 (keepM 98 (bare0 m) m) m) m)) :: .blk _ _ (mgC mg0) :: .blk _ _ (mgC m) :: []) := HQ); refine hK _ _ ⟨[_, _], H⟩ ?_; clear hK K HQ; go_frame; have hS : HpW w _ w1 := ⟨[_, _], H⟩)
  (refine hw_take hS 14 (by decide +kernel) (by decide +kernel) (by decide +kernel) ⟨_, rfl, rfl, ?_, ?_, fun _ _ _ h => h, ?_⟩; rotate_left; (intro w _; go_simp; try with_reducible rfl); go_frame)
  (refine hw_one 15 (by decide +kernel) ⟨_, rfl, rfl, fun K hK => ?_⟩; refine hw_str (vs := enC m.e) rfl rfl rfl H s_Entry .z rfl (Nat.le_of_ble_eq_true rfl) rfl (fun w1 HQ => ?_); (replace H : Hp w w1 (.blk _ _ (mgC (keepM 101 (keepM 99 (keepM 105 (keepM 98 (bare0 m) m) m) m) m)) :: .blk _ _ (mgC mg0) :: .blk _ _ (mgC m) :: []) := HQ); refine hK _ _ ⟨[_, _], H⟩ ?_; clear hK K HQ; go_frame; have hS : HpW w _ w1 := ⟨[_, _], H⟩)
  refine wpAnyH_done (by kernel_rfl) ?_ _
  clear hS; go_wp2_with (first | ((with_reducible refine Hp.box H ?_); (first | refine ⟨rfl, mgC m, rfl, ?_⟩); (clear H; intro gm w1 H); go_frame) | ((with_reducible refine Hp.allo (ty := 34) H ?_); refine ⟨rfl, ?_⟩; refine ⟨_, z_look rfl, ?_⟩; (clear H; intro gr w1 H); go_frame) | ((with_reducible refine Hp.ld H ?_); refine ⟨rfl, ?_⟩; refine ⟨c_look rfl, ?_⟩; refine ⟨_, _, rfl, ?_⟩; (first | refine ⟨_, _, _, .z, ?_⟩ | refine ⟨_, _, _, .s .z, ?_⟩ | refine ⟨_, _, _, .s (.s .z), ?_⟩); refine ⟨_, rfl, ?_⟩; go_frame) | ((with_reducible refine Hp.lda H ?_); refine ⟨rfl, by kernel_rfl, ?_⟩; refine ⟨_, s_look rfl, ?_⟩; refine ⟨_, rfl, ?_⟩; (first | refine ⟨_, _, _, .z, ?_⟩ | refine ⟨_, _, _, .s .z, ?_⟩ | refine ⟨_, _, _, .s (.s .z), ?_⟩); refine ⟨rfl, ?_⟩; go_frame) | ((with_reducible refine Hp.lds H ?_); refine ⟨rfl, by kernel_rfl, ?_⟩; refine ⟨_, s_look rfl, ?_⟩; refine ⟨_, _, rfl, ?_⟩; (first | refine ⟨_, _, _, .z, ?_⟩ | refine ⟨_, _, _, .s .z, ?_⟩ | refine ⟨_, _, _, .s (.s .z), ?_⟩); (fail); go_frame) | (fail) | ((with_reducible refine Hp.sta H ?_); refine ⟨rfl, ?_⟩; refine ⟨_, s_look rfl, ?_⟩; refine ⟨_, rfl, _, rfl, rfl, ?_⟩; (first | refine ⟨_, _, _, .z, ?_⟩ | refine ⟨_, _, _, .s .z, ?_⟩ | refine ⟨_, _, _, .s (.s .z), ?_⟩); refine ⟨rfl, rfl, ?_⟩; (clear H; intro w1 H; simp only [List.set] at H); go_frame) | (fail) | ((with_reducible refine Hp.bdl (t := 34) (parts := [_, _, _]) H ?_); refine ⟨rfl, mgC (bare0 m), b_mo3 _ _ _, ?_⟩; go_frame) | (fail)); exact bodyPost_ret (results_c rfl rfl (H.var (by kernel_rfl) (t := 34) (cs := mgC (keepM 101 (keepM 99 (keepM 105 (keepM 98 (bare0 m) m) m) m) m)) (.s .z) s_Msg)) rfl ⟨rfl, H.below⟩
set_option maxHeartbeats 4000000 in
theorem only_7 (m : Mg) (w : World) (hk : m.k = 7) : Calls Tryd.prog 55 #[.agg (mgC m).toArray] w (RetV w (.agg (mgC (bareM m)).toArray)) := by
  have hB : bareM m = (keepM 105 (keepM 98 (bare0 m) m) m) := by unfold bareM; rw [hk]; rfl
  have b1 : (m.k == 1) = false := by rw [hk]; rfl
  have b2 : (m.k == 2) = false := by rw [hk]; rfl
  have b3 : (m.k == 3) = false := by rw [hk]; rfl
  have b4 : (m.k == 4) = false := by rw [hk]; rfl
  have b5 : (m.k == 5) = false := by rw [hk]; rfl
  have b6 : (m.k == 6) = false := by rw [hk]; rfl
  have b7 : (m.k == 7) = true := by rw [hk]; rfl
  have b8 : (m.k == 8) = false := by rw [hk]; rfl
  have b9 : (m.k == 9) = false := by rw [hk]; rfl
  have b10 : (m.k == 10) = false := by rw [hk]; rfl
  have b11 : (m.k == 11) = false := by rw [hk]; rfl
  have b12 : (m.k == 12) = false := by rw [hk]; rfl
  have b13 : (m.k == 13) = false := by rw [hk]; rfl
  have b14 : (m.k == 14) = false := by rw [hk]; rfl
  have b15 : (m.k == 15) = false := by rw [hk]; rfl
  clear hk
  rw [hB]
  clear hB
  have H := Hp.nil w; go_enter Tryd.func55, Tryd.ntmps55; go_wp2_with (first | ((with_reducible refine Hp.box H ?_); (first | refine ⟨rfl, mgC m, rfl, ?_⟩); (clear H; intro gm w1 H); go_frame) | ((with_reducible refine Hp.allo (ty := 34) H ?_); refine ⟨rfl, ?_⟩; refine ⟨_, z_look rfl, ?_⟩; (clear H; intro gr w1 H); go_frame) | ((with_reducible refine Hp.ld H ?_); refine ⟨rfl, ?_⟩; refine ⟨c_look rfl, ?_⟩; refine ⟨_, _, rfl, ?_⟩; (first | refine ⟨_, _, _, .z, ?_⟩ | refine ⟨_, _, _, .s .z, ?_⟩ | refine ⟨_, _, _, .s (.s .z), ?_⟩); refine ⟨_, rfl, ?_⟩; go_frame) | ((with_reducible refine Hp.lda H ?_); refine ⟨rfl, by kernel_rfl, ?_⟩; refine ⟨_, s_look rfl, ?_⟩; refine ⟨_, rfl, ?_⟩; (first | refine ⟨_, _, _, .z, ?_⟩ | refine ⟨_, _, _, .s .z, ?_⟩ | refine ⟨_, _, _, .s (.s .z), ?_⟩); refine ⟨rfl, ?_⟩; go_frame) | ((with_reducible refine Hp.lds H ?_); refine ⟨rfl, by kernel_rfl, ?_⟩; refine ⟨_, s_look rfl, ?_⟩; refine ⟨_, _, rfl, ?_⟩; (first | refine ⟨_, _, _, .z, ?_⟩ | refine ⟨_, _, _, .s .z, ?_⟩ | refine ⟨_, _, _, .s (.s .z), ?_⟩); (fail); go_frame) | (fail) | ((with_reducible refine Hp.sta H ?_); refine ⟨rfl, ?_⟩; refine ⟨_, s_look rfl, ?_⟩; refine ⟨_, rfl, _, rfl, rfl, ?_⟩; (first | refine ⟨_, _, _, .z, ?_⟩ | refine ⟨_, _, _, .s .z, ?_⟩ | refine ⟨_, _, _, .s (.s .z), ?_⟩); refine ⟨rfl, rfl, ?_⟩; (clear H; intro w1 H; simp only [List.set] at H); go_frame) | (fail) | ((with_reducible refine Hp.bdl (t := 34) (parts := [_, _, _]) H ?_); refine ⟨rfl, mgC (bare0 m), b_mo3 _ _ _, ?_⟩; go_frame) | (fail))
  refine hw_start [_, _] [_] H (by kernel_rfl) (fun w1 H => ?_); have hS : HpW w _ w1 := ⟨[_, _], H⟩; simp only [List.cons_append, List.nil_append] at H
  (refine hw_take hS 0 (by decide +kernel) (by decide +kernel) (by decide +kernel) ⟨_, rfl, rfl, ?_, ?_, fun _ _ _ h => h, ?_⟩; rotate_left; (intro w _; go_simp; try with_reducible rfl); go_frame)
  (refine hw_take hS 1 (by decide +kernel) (by decide +kernel) (by decide +kernel) ⟨_, rfl, rfl, _, fun w h => ex_load rfl rfl (hw_lds (by kernel_rfl) s_Ballot (.z) (vs := baC m.br m.bp) rfl rfl w h), fun _ _ _ h => h, ?_⟩; go_frame)
  (refine hw_take hS 2 (by decide +kernel) (by decide +kernel) (by decide +kernel) ⟨_, rfl, rfl, ?_, ?_, fun _ _ _ h => h, ?_⟩; rotate_left; (intro w _; go_simp; try with_reducible rfl); go_frame)
  (refine hw_take hS 3 (by decide +kernel) (by decide +kernel) (by decide +kernel) ⟨_, rfl, rfl, _, fun w h => ex_load rfl rfl (hw_ld (by kernel_rfl) (.z) rfl w h), fun _ _ _ h => h, ?_⟩; go_frame)
  (refine hw_take hS 4 (by decide +kernel) (by decide +kernel) (by decide +kernel) ⟨_, rfl, rfl, ?_, ?_, fun _ _ _ h => h, ?_⟩; rotate_left; (intro w _; go_simp; try with_reducible rfl); go_frame)
  (refine hw_one 5 (by decide +kernel) ⟨_, rfl, rfl, fun K hK => ?_⟩; refine hw_str (vs := baC m.br m.bp) rfl rfl rfl H s_Ballot .z rfl (Nat.le_of_ble_eq_true rfl) rfl (fun w1 HQ => ?_); (replace H : Hp w w1 (.blk _ _ (mgC (keepM 98 (bare0 m) m)) :: .blk _ _ (mgC mg0) :: .blk _ _ (mgC m) :: []) := HQ); refine hK _ _ ⟨[_, _], H⟩ ?_; clear hK K HQ; go_frame; have hS : HpW w _ w1 := ⟨[_, _], H⟩)
  (refine hw_take hS 6 (by decide +kernel) (by decide +kernel) (by decide +kernel) ⟨_, rfl, rfl, ?_, ?_, fun _ _ _ h => h, ?_⟩; rotate_left; (intro w _; go_simp; try with_reducible rfl); go_frame)
  (refine hw_one 7 (by decide +kernel) ⟨_, rfl, rfl, fun K hK => ?_⟩; refine hw_sto (v := .int .i64 m.ix) (by kernel_rfl) rfl rfl rfl H .z (Nat.le_of_ble_eq_true rfl) rfl (fun w1 HQ => ?_); (replace H : Hp w w1 (.blk _ _ (mgC (keepM 105 (keepM 98 (bare0 m) m) m)) :: .blk _ _ (mgC mg0) :: .blk _ _ (mgC m) :: []) := HQ); refine hK _ _ ⟨[_, _], H⟩ ?_; clear hK K HQ; go_frame; have hS : HpW w _ w1 := ⟨[_, _], H⟩)
  refine wpAnyH_done (by kernel_rfl) ?_ _
  clear hS; go_wp2_with (first | ((with_reducible refine Hp.box H ?_); (first | refine ⟨rfl, mgC m, rfl, ?_⟩); (clear H; intro gm w1 H); go_frame) | ((with_reducible refine Hp.allo (ty := 34) H ?_); refine ⟨rfl, ?_⟩; refine ⟨_, z_look rfl, ?_⟩; (clear H; intro gr w1 H); go_frame) | ((with_reducible refine Hp.ld H ?_); refine ⟨rfl, ?_⟩; refine ⟨c_look rfl, ?_⟩; refine ⟨_, _, rfl, ?_⟩; (first | refine ⟨_, _, _, .z, ?_⟩ | refine ⟨_, _, _, .s .z, ?_⟩ | refine ⟨_, _, _, .s (.s .z), ?_⟩); refine ⟨_, rfl, ?_⟩; go_frame) | ((with_reducible refine Hp.lda H ?_); refine ⟨rfl, by kernel_rfl, ?_⟩; refine ⟨_, s_look rfl, ?_⟩; refine ⟨_, rfl, ?_⟩; (first | refine ⟨_, _, _, .z, ?_⟩ | refine ⟨_, _, _, .s .z, ?_⟩ | refine ⟨_, _, _, .s (.s .z), ?_⟩); refine ⟨rfl, ?_⟩; go_frame) | ((with_reducible refine Hp.lds H ?_); refine ⟨rfl, by kernel_rfl, ?_⟩; refine ⟨_, s_look rfl, ?_⟩; refine ⟨_, _, rfl, ?_⟩; (first | refine ⟨_, _, _, .z, ?_⟩ | refine ⟨_, _, _, .s .z, ?_⟩ | refine ⟨_, _, _, .s (.s .z), ?_⟩); (fail); go_frame) | (fail) | ((with_reducible refine Hp.sta H ?_); refine ⟨rfl, ?_⟩; refine ⟨_, s_look rfl, ?_⟩; refine ⟨_, rfl, _, rfl, rfl, ?_⟩; (first | refine ⟨_, _, _, .z, ?_⟩ | refine ⟨_, _, _, .s .z, ?_⟩ | refine ⟨_, _, _, .s (.s .z), ?_⟩); refine ⟨rfl, rfl, ?_⟩; (clear H; intro w1 H; simp only [List.set] at H); go_frame) | (fail) | ((with_reducible refine Hp.bdl (t := 34) (parts := [_, _, _]) H ?_); refine ⟨rfl, mgC (bare0 m), b_mo3 _ _ _, ?_⟩; go_frame) | (fail)); exact bodyPost_ret (results_c rfl rfl (H.var (by kernel_rfl) (t := 34) (cs := mgC (keepM 105 (keepM 98 (bare0 m) m) m)) (.s .z) s_Msg)) rfl ⟨rfl, H.below⟩
set_option maxHeartbeats 4000000 in
theorem only_8 (m : Mg) (w : World) (hk : m.k = 8) : Calls Tryd.prog 55 #[.agg (mgC m).toArray] w (RetV w (.agg (mgC (bareM m)).toArray)) := by
  have hB : bareM m = (keepM 110 (keepM 99 (keepM 98 (bare0 m) m) m) m) := by unfold bareM; rw [hk]; rfl
  have b1 : (m.k == 1) = false := by rw [hk]; rfl
  have b2 : (m.k == 2) = false := by rw [hk]; rfl
  have b3 : (m.k == 3) = false := by rw [hk]; rfl
  have b4 : (m.k == 4) = false := by rw [hk]; rfl
  have b5 : (m.k == 5) = false := by rw [hk]; rfl
  have b6 : (m.k == 6) = false := by rw [hk]; rfl
  have b7 : (m.k == 7) = false := by rw [hk]; rfl
  have b8 : (m.k == 8) = true := by rw [hk]; rfl
  have b9 : (m.k == 9) = false := by rw [hk]; rfl
  have b10 : (m.k == 10) = false := by rw [hk]; rfl
  have b11 : (m.k == 11) = false := by rw [hk]; rfl
  have b12 : (m.k == 12) = false := by rw [hk]; rfl
  have b13 : (m.k == 13) = false := by rw [hk]; rfl
  have b14 : (m.k == 14) = false := by rw [hk]; rfl
  have b15 : (m.k == 15) = false := by rw [hk]; rfl
  clear hk
  rw [hB]
  clear hB
  have H := Hp.nil w; go_enter Tryd.func55, Tryd.ntmps55; go_wp2_with (first | ((with_reducible refine Hp.box H ?_); (first | refine ⟨rfl, mgC m, rfl, ?_⟩); (clear H; intro gm w1 H); go_frame) | ((with_reducible refine Hp.allo (ty := 34) H ?_); refine ⟨rfl, ?_⟩; refine ⟨_, z_look rfl, ?_⟩; (clear H; intro gr w1 H); go_frame) | ((with_reducible refine Hp.ld H ?_); refine ⟨rfl, ?_⟩; refine ⟨c_look rfl, ?_⟩; refine ⟨_, _, rfl, ?_⟩; (first | refine ⟨_, _, _, .z, ?_⟩ | refine ⟨_, _, _, .s .z, ?_⟩ | refine ⟨_, _, _, .s (.s .z), ?_⟩); refine ⟨_, rfl, ?_⟩; go_frame) | ((with_reducible refine Hp.lda H ?_); refine ⟨rfl, by kernel_rfl, ?_⟩; refine ⟨_, s_look rfl, ?_⟩; refine ⟨_, rfl, ?_⟩; (first | refine ⟨_, _, _, .z, ?_⟩ | refine ⟨_, _, _, .s .z, ?_⟩ | refine ⟨_, _, _, .s (.s .z), ?_⟩); refine ⟨rfl, ?_⟩; go_frame) | ((with_reducible refine Hp.lds H ?_); refine ⟨rfl, by kernel_rfl, ?_⟩; refine ⟨_, s_look rfl, ?_⟩; refine ⟨_, _, rfl, ?_⟩; (first | refine ⟨_, _, _, .z, ?_⟩ | refine ⟨_, _, _, .s .z, ?_⟩ | refine ⟨_, _, _, .s (.s .z), ?_⟩); (fail); go_frame) | (fail) | ((with_reducible refine Hp.sta H ?_); refine ⟨rfl, ?_⟩; refine ⟨_, s_look rfl, ?_⟩; refine ⟨_, rfl, _, rfl, rfl, ?_⟩; (first | refine ⟨_, _, _, .z, ?_⟩ | refine ⟨_, _, _, .s .z, ?_⟩ | refine ⟨_, _, _, .s (.s .z), ?_⟩); refine ⟨rfl, rfl, ?_⟩; (clear H; intro w1 H; simp only [List.set] at H); go_frame) | (fail) | ((with_reducible refine Hp.bdl (t := 34) (parts := [_, _, _]) H ?_); refine ⟨rfl, mgC (bare0 m), b_mo3 _ _ _, ?_⟩; go_frame) | (fail))
  refine hw_start [_, _] [_] H (by kernel_rfl) (fun w1 H => ?_); have hS : HpW w _ w1 := ⟨[_, _], H⟩; simp only [List.cons_append, List.nil_append] at H
  (refine hw_take hS 0 (by decide +kernel) (by decide +kernel) (by decide +kernel) ⟨_, rfl, rfl, ?_, ?_, fun _ _ _ h => h, ?_⟩; rotate_left; (intro w _; go_simp; try with_reducible rfl); go_frame)
  (refine hw_take hS 1 (by decide +kernel) (by decide +kernel) (by decide +kernel) ⟨_, rfl, rfl, _, fun w h => ex_load rfl rfl (hw_lds (by kernel_rfl) s_Ballot (.z) (vs := baC m.br m.bp) rfl rfl w h), fun _ _ _ h => h, ?_⟩; go_frame)
  (refine hw_take hS 2 (by decide +kernel) (by decide +kernel) (by decide +kernel) ⟨_, rfl, rfl, ?_, ?_, fun _ _ _ h => h, ?_⟩; rotate_left; (intro w _; go_simp; try with_reducible rfl); go_frame)
  (refine hw_take hS 3 (by decide +kernel) (by decide +kernel) (by decide +kernel) ⟨_, rfl, rfl, _, fun w h => ex_load rfl rfl (hw_ld (by kernel_rfl) (.z) rfl w h), fun _ _ _ h => h, ?_⟩; go_frame)
  (refine hw_take hS 4 (by decide +kernel) (by decide +kernel) (by decide +kernel) ⟨_, rfl, rfl, ?_, ?_, fun _ _ _ h => h, ?_⟩; rotate_left; (intro w _; go_simp; try with_reducible rfl); go_frame)
  (refine hw_take hS 5 (by decide +kernel) (by decide +kernel) (by decide +kernel) ⟨_, rfl, rfl, _, fun w h => ex_load rfl rfl (hw_ld (by kernel_rfl) (.z) rfl w h), fun _ _ _ h => h, ?_⟩; go_frame)
  (refine hw_take hS 6 (by decide +kernel) (by decide +kernel) (by decide +kernel) ⟨_, rfl, rfl, ?_, ?_, fun _ _ _ h => h, ?_⟩; rotate_left; (intro w _; go_simp; try with_reducible rfl); go_frame)
  (refine hw_one 7 (by decide +kernel) ⟨_, rfl, rfl, fun K hK => ?_⟩; refine hw_str (vs := baC m.br m.bp) rfl rfl rfl H s_Ballot .z rfl (Nat.le_of_ble_eq_true rfl) rfl (fun w1 HQ => ?_); (replace H : Hp w w1 (.blk _ _ (mgC (keepM 98 (bare0 m) m)) :: .blk _ _ (mgC mg0) :: .blk _ _ (mgC m) :: []) := HQ); refine hK _ _ ⟨[_, _], H⟩ ?_; clear hK K HQ; go_frame; have hS : HpW w _ w1 := ⟨[_, _], H⟩)
  (refine hw_take hS 8 (by decide +kernel) (by decide +kernel) (by decide +kernel) ⟨_, rfl, rfl, ?_, ?_, fun _ _ _ h => h, ?_⟩; rotate_left; (intro w _; go_simp; try with_reducible rfl); go_frame)
  (refine hw_one 9 (by decide +kernel) ⟨_, rfl, rfl, fun K hK => ?_⟩; refine hw_sto (v := .int .i64 m.cm) (by kernel_rfl) rfl rfl rfl H .z (Nat.le_of_ble_eq_true rfl) rfl (fun w1 HQ => ?_); (replace H : Hp w w1 (.blk _ _ (mgC (keepM 99 (keepM 98 (bare0 m) m) m)) :: .blk _ _ (mgC mg0) :: .blk _ _ (mgC m) :: []) := HQ); refine hK _ _ ⟨[_, _], H⟩ ?_; clear hK K HQ; go_frame; have hS : HpW w _ w1 := ⟨[_, _], H⟩)
  (refine hw_take hS 10 (by decide +kernel) (by decide +kernel) (by decide +kernel) ⟨_, rfl, rfl, ?_, ?_, fun _ _ _ h => h, ?_⟩; rotate_left; (intro w _; go_simp; try with_reducible rfl); go_frame)
  (refine hw_one 11 (by decide +kernel) ⟨_, rfl, rfl, fun K hK => ?_⟩; refine hw_sto (v := .int .i64 m.nc) (by kernel_rfl) rfl rfl rfl H .z (Nat.le_of_ble_eq_true rfl) rfl (fun w1 HQ => ?_); (replace H : Hp w w1 (.blk _ _ (mgC (keepM 110 (keepM 99 (keepM 98 (bare0 m) m) m) m)) :: .blk _ _ (mgC mg0) :: .blk _ _ (mgC m) :: []) := HQ); refine hK _ _ ⟨[_, _], H⟩ ?_; clear hK K HQ; go_frame; have hS : HpW w _ w1 := ⟨[_, _], H⟩)
  refine wpAnyH_done (by kernel_rfl) ?_ _
  clear hS; go_wp2_with (first | ((with_reducible refine Hp.box H ?_); (first | refine ⟨rfl, mgC m, rfl, ?_⟩); (clear H; intro gm w1 H); go_frame) | ((with_reducible refine Hp.allo (ty := 34) H ?_); refine ⟨rfl, ?_⟩; refine ⟨_, z_look rfl, ?_⟩; (clear H; intro gr w1 H); go_frame) | ((with_reducible refine Hp.ld H ?_); refine ⟨rfl, ?_⟩; refine ⟨c_look rfl, ?_⟩; refine ⟨_, _, rfl, ?_⟩; (first | refine ⟨_, _, _, .z, ?_⟩ | refine ⟨_, _, _, .s .z, ?_⟩ | refine ⟨_, _, _, .s (.s .z), ?_⟩); refine ⟨_, rfl, ?_⟩; go_frame) | ((with_reducible refine Hp.lda H ?_); refine ⟨rfl, by kernel_rfl, ?_⟩; refine ⟨_, s_look rfl, ?_⟩; refine ⟨_, rfl, ?_⟩; (first | refine ⟨_, _, _, .z, ?_⟩ | refine ⟨_, _, _, .s .z, ?_⟩ | refine ⟨_, _, _, .s (.s .z), ?_⟩); refine ⟨rfl, ?_⟩; go_frame) | ((with_reducible refine Hp.lds H ?_); refine ⟨rfl, by kernel_rfl, ?_⟩; refine ⟨_, s_look rfl, ?_⟩; refine ⟨_, _, rfl, ?_⟩; (first | refine ⟨_, _, _, .z, ?_⟩ | refine ⟨_, _, _, .s .z, ?_⟩ | refine ⟨_, _, _, .s (.s .z), ?_⟩); (fail); go_frame) | (fail) | ((with_reducible refine Hp.sta H ?_); refine ⟨rfl, ?_⟩; refine ⟨_, s_look rfl, ?_⟩; refine ⟨_, rfl, _, rfl, rfl, ?_⟩; (first | refine ⟨_, _, _, .z, ?_⟩ | refine ⟨_, _, _, .s .z, ?_⟩ | refine ⟨_, _, _, .s (.s .z), ?_⟩); refine ⟨rfl, rfl, ?_⟩; (clear H; intro w1 H; simp only [List.set] at H); go_frame) | (fail) | ((with_reducible refine Hp.bdl (t := 34) (parts := [_, _, _]) H ?_); refine ⟨rfl, mgC (bare0 m), b_mo3 _ _ _, ?_⟩; go_frame) | (fail)); exact bodyPost_ret (results_c rfl rfl (H.var (by kernel_rfl) (t := 34) (cs := mgC (keepM 110 (keepM 99 (keepM 98 (bare0 m) m) m) m)) (.s .z) s_Msg)) rfl ⟨rfl, H.below⟩
set_option maxHeartbeats 4000000 in
theorem only_9 (m : Mg) (w : World) (hk : m.k = 9) : Calls Tryd.prog 55 #[.agg (mgC m).toArray] w (RetV w (.agg (mgC (bareM m)).toArray)) := by
  have hB : bareM m = (keepM 110 (keepM 98 (bare0 m) m) m) := by unfold bareM; rw [hk]; rfl
  have b1 : (m.k == 1) = false := by rw [hk]; rfl
  have b2 : (m.k == 2) = false := by rw [hk]; rfl
  have b3 : (m.k == 3) = false := by rw [hk]; rfl
  have b4 : (m.k == 4) = false := by rw [hk]; rfl
  have b5 : (m.k == 5) = false := by rw [hk]; rfl
  have b6 : (m.k == 6) = false := by rw [hk]; rfl
  have b7 : (m.k == 7) = false := by rw [hk]; rfl
  have b8 : (m.k == 8) = false := by rw [hk]; rfl
  have b9 : (m.k == 9) = true := by rw [hk]; rfl
  have b10 : (m.k == 10) = false := by rw [hk]; rfl
  have b11 : (m.k == 11) = false := by rw [hk]; rfl
  have b12 : (m.k == 12) = false := by rw [hk]; rfl
  have b13 : (m.k == 13) = false := by rw [hk]; rfl
  have b14 : (m.k == 14) = false := by rw [hk]; rfl
  have b15 : (m.k == 15) = false := by rw [hk]; rfl
  clear hk
  rw [hB]
  clear hB
  have H := Hp.nil w; go_enter Tryd.func55, Tryd.ntmps55; go_wp2_with (first | ((with_reducible refine Hp.box H ?_); (first | refine ⟨rfl, mgC m, rfl, ?_⟩); (clear H; intro gm w1 H); go_frame) | ((with_reducible refine Hp.allo (ty := 34) H ?_); refine ⟨rfl, ?_⟩; refine ⟨_, z_look rfl, ?_⟩; (clear H; intro gr w1 H); go_frame) | ((with_reducible refine Hp.ld H ?_); refine ⟨rfl, ?_⟩; refine ⟨c_look rfl, ?_⟩; refine ⟨_, _, rfl, ?_⟩; (first | refine ⟨_, _, _, .z, ?_⟩ | refine ⟨_, _, _, .s .z, ?_⟩ | refine ⟨_, _, _, .s (.s .z), ?_⟩); refine ⟨_, rfl, ?_⟩; go_frame) | ((with_reducible refine Hp.lda H ?_); refine ⟨rfl, by kernel_rfl, ?_⟩; refine ⟨_, s_look rfl, ?_⟩; refine ⟨_, rfl, ?_⟩; (first | refine ⟨_, _, _, .z, ?_⟩ | refine ⟨_, _, _, .s .z, ?_⟩ | refine ⟨_, _, _, .s (.s .z), ?_⟩); refine ⟨rfl, ?_⟩; go_frame) | ((with_reducible refine Hp.lds H ?_); refine ⟨rfl, by kernel_rfl, ?_⟩; refine ⟨_, s_look rfl, ?_⟩; refine ⟨_, _, rfl, ?_⟩; (first | refine ⟨_, _, _, .z, ?_⟩ | refine ⟨_, _, _, .s .z, ?_⟩ | refine ⟨_, _, _, .s (.s .z), ?_⟩); (fail); go_frame) | (fail) | ((with_reducible refine Hp.sta H ?_); refine ⟨rfl, ?_⟩; refine ⟨_, s_look rfl, ?_⟩; refine ⟨_, rfl, _, rfl, rfl, ?_⟩; (first | refine ⟨_, _, _, .z, ?_⟩ | refine ⟨_, _, _, .s .z, ?_⟩ | refine ⟨_, _, _, .s (.s .z), ?_⟩); refine ⟨rfl, rfl, ?_⟩; (clear H; intro w1 H; simp only [List.set] at H); go_frame) | (fail) | ((with_reducible refine Hp.bdl (t := 34) (parts := [_, _, _]) H ?_); refine ⟨rfl, mgC (bare0 m), b_mo3 _ _ _, ?_⟩; go_frame) | (fail))
  refine hw_start [_, _] [_] H (by kernel_rfl) (fun w1 H => ?_); have hS : HpW w _ w1 := ⟨[_, _], H⟩; simp only [List.cons_append, List.nil_append] at H
  (refine hw_take hS 0 (by decide +kernel) (by decide +kernel) (by decide +kernel) ⟨_, rfl, rfl, ?_, ?_, fun _ _ _ h => h, ?_⟩; rotate_left; (intro w _; go_simp; try with_reducible rfl); go_frame)
  (refine hw_take hS 1 (by decide +kernel) (by decide +kernel) (by decide +kernel) ⟨_, rfl, rfl, _, fun w h => ex_load rfl rfl (hw_lds (by kernel_rfl) s_Ballot (.z) (vs := baC m.br m.bp) rfl rfl w h), fun _ _ _ h => h, ?_⟩; go_frame)
  (refine hw_take hS 2 (by decide +kernel) (by decide +kernel) (by decide +kernel) ⟨_, rfl, rfl, ?_, ?_, fun _ _ _ h => h, ?_⟩; rotate_left; (intro w _; go_simp; try with_reducible rfl); go_frame)
  (refine hw_take hS 3 (by decide +kernel) (by decide +kernel) (by decide +kernel) ⟨_, rfl, rfl, _, fun w h => ex_load rfl rfl (hw_ld (by kernel_rfl) (.z) rfl w h), fun _ _ _ h => h, ?_⟩; go_frame)
  (refine hw_take hS 4 (by decide +kernel) (by decide +kernel) (by decide +kernel) ⟨_, rfl, rfl, ?_, ?_, fun _ _ _ h => h, ?_⟩; rotate_left; (intro w _; go_simp; try with_reducible rfl); go_frame)
  (refine hw_one 5 (by decide +kernel) ⟨_, rfl, rfl, fun K hK => ?_⟩; refine hw_str (vs := baC m.br m.bp) rfl rfl rfl H s_Ballot .z rfl (Nat.le_of_ble_eq_true rfl) rfl (fun w1 HQ => ?_); (replace H : Hp w w1 (.blk _ _ (mgC (keepM 98 (bare0 m) m)) :: .blk _ _ (mgC mg0) :: .blk _ _ (mgC m) :: []) := HQ); refine hK _ _ ⟨[_, _], H⟩ ?_; clear hK K HQ; go_frame; have hS : HpW w _ w1 := ⟨[_, _], H⟩)
  (refine hw_take hS 6 (by decide +kernel) (by decide +kernel) (by decide +kernel) ⟨_, rfl, rfl, ?_, ?_, fun _ _ _ h => h, ?_⟩; rotate_left; (intro w _; go_simp; try with_reducible rfl); go_frame)
  (refine hw_one 7 (by decide +kernel) ⟨_, rfl, rfl, fun K hK => ?_⟩; refine hw_sto (v := .int .i64 m.nc) (by kernel_rfl) rfl rfl rfl H .z (Nat.le_of_ble_eq_true rfl) rfl (fun w1 HQ => ?_); (replace H : Hp w w1 (.blk _ _ (mgC (keepM 110 (keepM 98 (bare0 m) m) m)) :: .blk _ _ (mgC mg0) :: .blk _ _ (mgC m) :: []) := HQ); refine hK _ _ ⟨[_, _], H⟩ ?_; clear hK K HQ; go_frame; have hS : HpW w _ w1 := ⟨[_, _], H⟩)
  refine wpAnyH_done (by kernel_rfl) ?_ _
  clear hS; go_wp2_with (first | ((with_reducible refine Hp.box H ?_); (first | refine ⟨rfl, mgC m, rfl, ?_⟩); (clear H; intro gm w1 H); go_frame) | ((with_reducible refine Hp.allo (ty := 34) H ?_); refine ⟨rfl, ?_⟩; refine ⟨_, z_look rfl, ?_⟩; (clear H; intro gr w1 H); go_frame) | ((with_reducible refine Hp.ld H ?_); refine ⟨rfl, ?_⟩; refine ⟨c_look rfl, ?_⟩; refine ⟨_, _, rfl, ?_⟩; (first | refine ⟨_, _, _, .z, ?_⟩ | refine ⟨_, _, _, .s .z, ?_⟩ | refine ⟨_, _, _, .s (.s .z), ?_⟩); refine ⟨_, rfl, ?_⟩; go_frame) | ((with_reducible refine Hp.lda H ?_); refine ⟨rfl, by kernel_rfl, ?_⟩; refine ⟨_, s_look rfl, ?_⟩; refine ⟨_, rfl, ?_⟩; (first | refine ⟨_, _, _, .z, ?_⟩ | refine ⟨_, _, _, .s .z, ?_⟩ | refine ⟨_, _, _, .s (.s .z), ?_⟩); refine ⟨rfl, ?_⟩; go_frame) | ((with_reducible refine Hp.lds H ?_); refine ⟨rfl, by kernel_rfl, ?_⟩; refine ⟨_, s_look rfl, ?_⟩; refine ⟨_, _, rfl, ?_⟩; (first | refine ⟨_, _, _, .z, ?_⟩ | refine ⟨_, _, _, .s .z, ?_⟩ | refine ⟨_, _, _, .s (.s .z), ?_⟩); (fail); go_frame) | (fail) | ((with_reducible refine Hp.sta H ?_); refine ⟨rfl, ?_⟩; refine ⟨_, s_look rfl, ?_⟩; refine ⟨_, rfl, _, rfl, rfl, ?_⟩; (first | refine ⟨_, _, _, .z, ?_⟩ | refine ⟨_, _, _, .s .z, ?_⟩ | refine ⟨_, _, _, .s (.s .z), ?_⟩); refine ⟨rfl, rfl, ?_⟩; (clear H; intro w1 H; simp only [List.set] at H); go_frame) | (fail) | ((with_reducible refine Hp.bdl (t := 34) (parts := [_, _, _]) H ?_); refine ⟨rfl, mgC (bare0 m), b_mo3 _ _ _, ?_⟩; go_frame) | (fail)); exact bodyPost_ret (results_c rfl rfl (H.var (by kernel_rfl) (t := 34) (cs := mgC (keepM 110 (keepM 98 (bare0 m) m) m)) (.s .z) s_Msg)) rfl ⟨rfl, H.below⟩
set_option maxHeartbeats 4000000 in
theorem only_10 (m : Mg) (w : World) (hk : m.k = 10) : Calls Tryd.prog 55 #[.agg (mgC m).toArray] w (RetV w (.agg (mgC (bareM m)).toArray)) := by
  have hB : bareM m = (keepM 105 (bare0 m) m) := by unfold bareM; rw [hk]; rfl
  have b1 : (m.k == 1) = false := by rw [hk]; rfl
  have b2 : (m.k == 2) = false := by rw [hk]; rfl
  have b3 : (m.k == 3) = false := by rw [hk]; rfl
  have b4 : (m.k == 4) = false := by rw [hk]; rfl
  have b5 : (m.k == 5) = false := by rw [hk]; rfl
  have b6 : (m.k == 6) = false := by rw [hk]; rfl
  have b7 : (m.k == 7) = false := by rw [hk]; rfl
  have b8 : (m.k == 8) = false := by rw [hk]; rfl
  have b9 : (m.k == 9) = false := by rw [hk]; rfl
  have b10 : (m.k == 10) = true := by rw [hk]; rfl
  have b11 : (m.k == 11) = false := by rw [hk]; rfl
  have b12 : (m.k == 12) = false := by rw [hk]; rfl
  have b13 : (m.k == 13) = false := by rw [hk]; rfl
  have b14 : (m.k == 14) = false := by rw [hk]; rfl
  have b15 : (m.k == 15) = false := by rw [hk]; rfl
  clear hk
  rw [hB]
  clear hB
  have H := Hp.nil w; go_enter Tryd.func55, Tryd.ntmps55; go_wp2_with (first | ((with_reducible refine Hp.box H ?_); (first | refine ⟨rfl, mgC m, rfl, ?_⟩); (clear H; intro gm w1 H); go_frame) | ((with_reducible refine Hp.allo (ty := 34) H ?_); refine ⟨rfl, ?_⟩; refine ⟨_, z_look rfl, ?_⟩; (clear H; intro gr w1 H); go_frame) | ((with_reducible refine Hp.ld H ?_); refine ⟨rfl, ?_⟩; refine ⟨c_look rfl, ?_⟩; refine ⟨_, _, rfl, ?_⟩; (first | refine ⟨_, _, _, .z, ?_⟩ | refine ⟨_, _, _, .s .z, ?_⟩ | refine ⟨_, _, _, .s (.s .z), ?_⟩); refine ⟨_, rfl, ?_⟩; go_frame) | ((with_reducible refine Hp.lda H ?_); refine ⟨rfl, by kernel_rfl, ?_⟩; refine ⟨_, s_look rfl, ?_⟩; refine ⟨_, rfl, ?_⟩; (first | refine ⟨_, _, _, .z, ?_⟩ | refine ⟨_, _, _, .s .z, ?_⟩ | refine ⟨_, _, _, .s (.s .z), ?_⟩); refine ⟨rfl, ?_⟩; go_frame) | ((with_reducible refine Hp.lds H ?_); refine ⟨rfl, by kernel_rfl, ?_⟩; refine ⟨_, s_look rfl, ?_⟩; refine ⟨_, _, rfl, ?_⟩; (first | refine ⟨_, _, _, .z, ?_⟩ | refine ⟨_, _, _, .s .z, ?_⟩ | refine ⟨_, _, _, .s (.s .z), ?_⟩); (fail); go_frame) | ((with_reducible refine Hp.sto H ?_); refine ⟨rfl, ?_⟩; refine ⟨c_look rfl, ?_⟩; refine ⟨_, _, rfl, ?_⟩; (first | refine ⟨_, _, _, .z, ?_⟩ | refine ⟨_, _, _, .s .z, ?_⟩ | refine ⟨_, _, _, .s (.s .z), ?_⟩); refine ⟨⟨_, rfl⟩, rfl, ?_⟩; (clear H; intro w1 H); (replace H : Hp _ w1 (.blk _ _ (mgC (keepM 105 (bare0 m) m)) :: _) := H); go_frame) | ((with_reducible refine Hp.sta H ?_); refine ⟨rfl, ?_⟩; refine ⟨_, s_look rfl, ?_⟩; refine ⟨_, rfl, _, rfl, rfl, ?_⟩; (first | refine ⟨_, _, _, .z, ?_⟩ | refine ⟨_, _, _, .s .z, ?_⟩ | refine ⟨_, _, _, .s (.s .z), ?_⟩); refine ⟨rfl, rfl, ?_⟩; (clear H; intro w1 H; simp only [List.set] at H); go_frame) | (fail) | ((with_reducible refine Hp.bdl (t := 34) (parts := [_, _, _]) H ?_); refine ⟨rfl, mgC (bare0 m), b_mo3 _ _ _, ?_⟩; go_frame) | (fail))
  have hS := True.intro
  clear hS; go_wp2_with (first | ((with_reducible refine Hp.box H ?_); (first | refine ⟨rfl, mgC m, rfl, ?_⟩); (clear H; intro gm w1 H); go_frame) | ((with_reducible refine Hp.allo (ty := 34) H ?_); refine ⟨rfl, ?_⟩; refine ⟨_, z_look rfl, ?_⟩; (clear H; intro gr w1 H); go_frame) | ((with_reducible refine Hp.ld H ?_); refine ⟨rfl, ?_⟩; refine ⟨c_look rfl, ?_⟩; refine ⟨_, _, rfl, ?_⟩; (first | refine ⟨_, _, _, .z, ?_⟩ | refine ⟨_, _, _, .s .z, ?_⟩ | refine ⟨_, _, _, .s (.s .z), ?_⟩); refine ⟨_, rfl, ?_⟩; go_frame) | ((with_reducible refine Hp.lda H ?_); refine ⟨rfl, by kernel_rfl, ?_⟩; refine ⟨_, s_look rfl, ?_⟩; refine ⟨_, rfl, ?_⟩; (first | refine ⟨_, _, _, .z, ?_⟩ | refine ⟨_, _, _, .s .z, ?_⟩ | refine ⟨_, _, _, .s (.s .z), ?_⟩); refine ⟨rfl, ?_⟩; go_frame) | ((with_reducible refine Hp.lds H ?_); refine ⟨rfl, by kernel_rfl, ?_⟩; refine ⟨_, s_look rfl, ?_⟩; refine ⟨_, _, rfl, ?_⟩; (first | refine ⟨_, _, _, .z, ?_⟩ | refine ⟨_, _, _, .s .z, ?_⟩ | refine ⟨_, _, _, .s (.s .z), ?_⟩); (fail); go_frame) | ((with_reducible refine Hp.sto H ?_); refine ⟨rfl, ?_⟩; refine ⟨c_look rfl, ?_⟩; refine ⟨_, _, rfl, ?_⟩; (first | refine ⟨_, _, _, .z, ?_⟩ | refine ⟨_, _, _, .s .z, ?_⟩ | refine ⟨_, _, _, .s (.s .z), ?_⟩); refine ⟨⟨_, rfl⟩, rfl, ?_⟩; (clear H; intro w1 H); (replace H : Hp _ w1 (.blk _ _ (mgC (keepM 105 (bare0 m) m)) :: _) := H); go_frame) | ((with_reducible refine Hp.sta H ?_); refine ⟨rfl, ?_⟩; refine ⟨_, s_look rfl, ?_⟩; refine ⟨_, rfl, _, rfl, rfl, ?_⟩; (first | refine ⟨_, _, _, .z, ?_⟩ | refine ⟨_, _, _, .s .z, ?_⟩ | refine ⟨_, _, _, .s (.s .z), ?_⟩); refine ⟨rfl, rfl, ?_⟩; (clear H; intro w1 H; simp only [List.set] at H); go_frame) | (fail) | ((with_reducible refine Hp.bdl (t := 34) (parts := [_, _, _]) H ?_); refine ⟨rfl, mgC (bare0 m), b_mo3 _ _ _, ?_⟩; go_frame) | (fail)); exact bodyPost_ret (results_c rfl rfl (H.var (by kernel_rfl) (t := 34) (cs := mgC (keepM 105 (bare0 m) m)) (.s .z) s_Msg)) rfl ⟨rfl, H.below⟩
set_option maxHeartbeats 4000000 in
theorem only_11 (m : Mg) (w : World) (hk : m.k = 11) : Calls Tryd.prog 55 #[.agg (mgC m).toArray] w (RetV w (.agg (mgC (bareM m)).toArray)) := by
  have hB : bareM m = (keepM 101 (keepM 105 (keepM 98 (bare0 m) m) m) m) := by unfold bareM; rw [hk]; rfl
  have b1 : (m.k == 1) = false := by rw [hk]; rfl
  have b2 : (m.k == 2) = false := by rw [hk]; rfl
  have b3 : (m.k == 3) = false := by rw [hk]; rfl
  have b4 : (m.k == 4) = false := by rw [hk]; rfl
  have b5 : (m.k == 5) = false := by rw [hk]; rfl
  have b6 : (m.k == 6) = false := by rw [hk]; rfl
  have b7 : (m.k == 7) = false := by rw [hk]; rfl
  have b8 : (m.k == 8) = false := by rw [hk]; rfl
  have b9 : (m.k == 9) = false := by rw [hk]; rfl
  have b10 : (m.k == 10) = false := by rw [hk]; rfl
  have b11 : (m.k == 11) = true := by rw [hk]; rfl
  have b12 : (m.k == 12) = false := by rw [hk]; rfl
  have b13 : (m.k == 13) = false := by rw [hk]; rfl
  have b14 : (m.k == 14) = false := by rw [hk]; rfl
  have b15 : (m.k == 15) = false := by rw [hk]; rfl
  clear hk
  rw [hB]
  clear hB
  have H := Hp.nil w; go_enter Tryd.func55, Tryd.ntmps55; go_wp2_with (first | ((with_reducible refine Hp.box H ?_); (first | refine ⟨rfl, mgC m, rfl, ?_⟩); (clear H; intro gm w1 H); go_frame) | ((with_reducible refine Hp.allo (ty := 34) H ?_); refine ⟨rfl, ?_⟩; refine ⟨_, z_look rfl, ?_⟩; (clear H; intro gr w1 H); go_frame) | ((with_reducible refine Hp.ld H ?_); refine ⟨rfl, ?_⟩; refine ⟨c_look rfl, ?_⟩; refine ⟨_, _, rfl, ?_⟩; (first | refine ⟨_, _, _, .z, ?_⟩ | refine ⟨_, _, _, .s .z, ?_⟩ | refine ⟨_, _, _, .s (.s .z), ?_⟩); refine ⟨_, rfl, ?_⟩; go_frame) | ((with_reducible refine Hp.lda H ?_); refine ⟨rfl, by kernel_rfl, ?_⟩; refine ⟨_, s_look rfl, ?_⟩; refine ⟨_, rfl, ?_⟩; (first | refine ⟨_, _, _, .z, ?_⟩ | refine ⟨_, _, _, .s .z, ?_⟩ | refine ⟨_, _, _, .s (.s .z), ?_⟩); refine ⟨rfl, ?_⟩; go_frame) | ((with_reducible refine Hp.lds H ?_); refine ⟨rfl, by kernel_rfl, ?_⟩; refine ⟨_, s_look rfl, ?_⟩; refine ⟨_, _, rfl, ?_⟩; (first | refine ⟨_, _, _, .z, ?_⟩ | refine ⟨_, _, _, .s .z, ?_⟩ | refine ⟨_, _, _, .s (.s .z), ?_⟩); (fail); go_frame) | (fail) | ((with_reducible refine Hp.sta H ?_); refine ⟨rfl, ?_⟩; refine ⟨_, s_look rfl, ?_⟩; refine ⟨_, rfl, _, rfl, rfl, ?_⟩; (first | refine ⟨_, _, _, .z, ?_⟩ | refine ⟨_, _, _, .s .z, ?_⟩ | refine ⟨_, _, _, .s (.s .z), ?_⟩); refine ⟨rfl, rfl, ?_⟩; (clear H; intro w1 H; simp only [List.set] at H); go_frame) | (fail) | ((with_reducible refine Hp.bdl (t := 34) (parts := [_, _, _]) H ?_); refine ⟨rfl, mgC (bare0 m), b_mo3 _ _ _, ?_⟩; go_frame) | (fail))
  refine hw_start [_, _] [_] H (by kernel_rfl) (fun w1 H => ?_); have hS : HpW w _ w1 := ⟨[_, _], H⟩; simp only [List.cons_append, List.nil_append] at H
  (refine hw_take hS 0 (by decide +kernel) (by decide +kernel) (by decide +kernel) ⟨_, rfl, rfl, ?_, ?_, fun _ _ _ h => h, ?_⟩; rotate_left; (intro w _; go_simp; try with_reducible rfl); go_frame)
  (refine hw_take hS 1 (by decide +kernel) (by decide +kernel) (by decide +kernel) ⟨_, rfl, rfl, _, fun w h => ex_load rfl rfl (hw_lds (by kernel_rfl) s_Ballot (.z) (vs := baC m.br m.bp) rfl rfl w h), fun _ _ _ h => h, ?_⟩; go_frame)
  (refine hw_take hS 2 (by decide +kernel) (by decide +kernel) (by decide +kernel) ⟨_, rfl, rfl, ?_, ?_, fun _ _ _ h => h, ?_⟩; rotate_left; (intro w _; go_simp; try with_reducible rfl); go_frame)
  (refine hw_take hS 3 (by decide +kernel) (by decide +kernel) (by decide +kernel) ⟨_, rfl, rfl, _, fun w h => ex_load rfl rfl (hw_ld (by kernel_rfl) (.z) rfl w h), fun _ _ _ h => h, ?_⟩; go_frame)
  (refine hw_take hS 4 (by decide +kernel) (by decide +kernel) (by decide +kernel) ⟨_, rfl, rfl, ?_, ?_, fun _ _ _ h => h, ?_⟩; rotate_left; (intro w _; go_simp; try with_reducible rfl); go_frame)
  (refine hw_take hS 5 (by decide +kernel) (by decide +kernel) (by decide +kernel) ⟨_, rfl, rfl, _, fun w h => ex_load rfl rfl (hw_lds (by kernel_rfl) s_Entry (.z) (vs := enC m.e) rfl rfl w h), fun _ _ _ h => h, ?_⟩; go_frame)
  (refine hw_take hS 6 (by decide +kernel) (by decide +kernel) (by decide +kernel) ⟨_, rfl, rfl, ?_, ?_, fun _ _ _ h => h, ?_⟩; rotate_left; (intro w _; go_simp; try with_reducible rfl); go_frame)
  (refine hw_one 7 (by decide +kernel) ⟨_, rfl, rfl, fun K hK => ?_⟩; refine hw_str (vs := baC m.br m.bp) rfl rfl rfl H s_Ballot .z rfl (Nat.le_of_ble_eq_true rfl) rfl (fun w1 HQ => ?_); (replace H : Hp w w1 (.blk _ _ (mgC (keepM 98 (bare0 m) m)) :: .blk _ _ (mgC mg0) :: .blk _ _ (mgC m) :: []) := HQ); refine hK _ _ ⟨[_, _], H⟩ ?_; clear hK K HQ; go_frame; have hS : HpW w _ w1 := ⟨[_, _], H⟩)
  (refine hw_take hS 8 (by decide +kernel) (by decide +kernel) (by decide +kernel) ⟨_, rfl, rfl, ?_, ?_, fun _ _ _ h => h, ?_⟩; rotate_left; (intro w _; go_simp; try with_reducible rfl); go_frame)
  (refine hw_one 9 (by decide +kernel) ⟨_, rfl, rfl, fun K hK => ?_⟩; refine hw_sto (v := .int .i64 m.ix) (by kernel_rfl) rfl rfl rfl H .z (Nat.le_of_ble_eq_true rfl) rfl (fun w1 HQ => ?_); (replace H : Hp w w1 (.blk _ _ (mgC (keepM 105 (keepM 98 (bare0 m) m) m)) :: .blk _ _ (mgC mg0) :: .blk _ _ (mgC m) :: []) := HQ); refine hK _ _ ⟨[_, _], H⟩ ?_; clear hK K HQ; go_frame; have hS : HpW w _ w1 := ⟨[_, _], H⟩)
  (refine hw_take hS 10 (by decide +kernel) (by decide +kernel) (by decide +kernel) ⟨_, rfl, rfl, ?_, ?_, fun _ _ _ h => h, ?_⟩; rotate_left; (intro w _; go_simp; try with_reducible rfl); go_frame)
  (refine hw_one 11 (by decide +kernel) ⟨_, rfl, rfl, fun K hK => ?_⟩; refine hw_str (vs := enC m.e) rfl rfl rfl H s_Entry .z rfl (Nat.le_of_ble_eq_true rfl) rfl (fun w1 HQ => ?_); (replace H : Hp w w1 (.blk _ _ (mgC (keepM 101 (keepM 105 (keepM 98 (bare0 m) m) m) m)) :: .blk _ _ (mgC mg0) :: .blk _ _ (mgC m) :: []) := HQ); refine hK _ _ ⟨[_, _], H⟩ ?_; clear hK K HQ; go_frame; have hS : HpW w _ w1 := ⟨[_, _], H⟩)
  refine wpAnyH_done (by kernel_rfl) ?_ _
  clear hS; go_wp2_with (first | ((with_reducible refine Hp.box H ?_); (first | refine ⟨rfl, mgC m, rfl, ?_⟩); (clear H; intro gm w1 H); go_frame) | ((with_reducible refine Hp.allo (ty := 34) H ?_); refine ⟨rfl, ?_⟩; refine ⟨_, z_look rfl, ?_⟩; (clear H; intro gr w1 H); go_frame) | ((with_reducible refine Hp.ld H ?_); refine ⟨rfl, ?_⟩; refine ⟨c_look rfl, ?_⟩; refine ⟨_, _, rfl, ?_⟩; (first | refine ⟨_, _, _, .z, ?_⟩ | refine ⟨_, _, _, .s .z, ?_⟩ | refine ⟨_, _, _, .s (.s .z), ?_⟩); refine ⟨_, rfl, ?_⟩; go_frame) | ((with_reducible refine Hp.lda H ?_); refine ⟨rfl, by kernel_rfl, ?_⟩; refine ⟨_, s_look rfl, ?_⟩; refine ⟨_, rfl, ?_⟩; (first | refine ⟨_, _, _, .z, ?_⟩ | refine ⟨_, _, _, .s .z, ?_⟩ | refine ⟨_, _, _, .s (.s .z), ?_⟩); refine ⟨rfl, ?_⟩; go_frame) | ((with_reducible refine Hp.lds H ?_); refine ⟨rfl, by kernel_rfl, ?_⟩; refine ⟨_, s_look rfl, ?_⟩; refine ⟨_, _, rfl, ?_⟩; (first | refine ⟨_, _, _, .z, ?_⟩ | refine ⟨_, _, _, .s .z, ?_⟩ | refine ⟨_, _, _, .s (.s .z), ?_⟩); (fail); go_frame) | (fail) | ((with_reducible refine Hp.sta H ?_); refine ⟨rfl, ?_⟩; refine ⟨_, s_look rfl, ?_⟩; refine ⟨_, rfl, _, rfl, rfl, ?_⟩; (first | refine ⟨_, _, _, .z, ?_⟩ | refine ⟨_, _, _, .s .z, ?_⟩ | refine ⟨_, _, _, .s (.s .z), ?_⟩); refine ⟨rfl, rfl, ?_⟩; (clear H; intro w1 H; simp only [List.set] at H); go_frame) | (fail) | ((with_reducible refine Hp.bdl (t := 34) (parts := [_, _, _]) H ?_); refine ⟨rfl, mgC (bare0 m), b_mo3 _ _ _, ?_⟩; go_frame) | (fail)); exact bodyPost_ret (results_c rfl rfl (H.var (by kernel_rfl) (t := 34) (cs := mgC (keepM 101 (keepM 105 (keepM 98 (bare0 m) m) m) m)) (.s .z) s_Msg)) rfl ⟨rfl, H.below⟩
set_option maxHeartbeats 4000000 in
theorem only_12 (m : Mg) (w : World) (hk : m.k = 12) : Calls Tryd.prog 55 #[.agg (mgC m).toArray] w (RetV w (.agg (mgC (bareM m)).toArray)) := by
  have hB : bareM m = (keepM 107 (keepM 122 (bare0 m) m) m) := by unfold bareM; rw [hk]; rfl
  have b1 : (m.k == 1) = false := by rw [hk]; rfl
  have b2 : (m.k == 2) = false := by rw [hk]; rfl
  have b3 : (m.k == 3) = false := by rw [hk]; rfl
  have b4 : (m.k == 4) = false := by rw [hk]; rfl
  have b5 : (m.k == 5) = false := by rw [hk]; rfl
  have b6 : (m.k == 6) = false := by rw [hk]; rfl
  have b7 : (m.k == 7) = false := by rw [hk]; rfl
  have b8 : (m.k == 8) = false := by rw [hk]; rfl
  have b9 : (m.k == 9) = false := by rw [hk]; rfl
  have b10 : (m.k == 10) = false := by rw [hk]; rfl
  have b11 : (m.k == 11) = false := by rw [hk]; rfl
  have b12 : (m.k == 12) = true := by rw [hk]; rfl
  have b13 : (m.k == 13) = false := by rw [hk]; rfl
  have b14 : (m.k == 14) = false := by rw [hk]; rfl
  have b15 : (m.k == 15) = false := by rw [hk]; rfl
  clear hk
  rw [hB]
  clear hB
  have H := Hp.nil w; go_enter Tryd.func55, Tryd.ntmps55; go_wp2_with (first | ((with_reducible refine Hp.box H ?_); (first | refine ⟨rfl, mgC m, rfl, ?_⟩); (clear H; intro gm w1 H); go_frame) | ((with_reducible refine Hp.allo (ty := 34) H ?_); refine ⟨rfl, ?_⟩; refine ⟨_, z_look rfl, ?_⟩; (clear H; intro gr w1 H); go_frame) | ((with_reducible refine Hp.ld H ?_); refine ⟨rfl, ?_⟩; refine ⟨c_look rfl, ?_⟩; refine ⟨_, _, rfl, ?_⟩; (first | refine ⟨_, _, _, .z, ?_⟩ | refine ⟨_, _, _, .s .z, ?_⟩ | refine ⟨_, _, _, .s (.s .z), ?_⟩); refine ⟨_, rfl, ?_⟩; go_frame) | ((with_reducible refine Hp.lda H ?_); refine ⟨rfl, by kernel_rfl, ?_⟩; refine ⟨_, s_look rfl, ?_⟩; refine ⟨_, rfl, ?_⟩; (first | refine ⟨_, _, _, .z, ?_⟩ | refine ⟨_, _, _, .s .z, ?_⟩ | refine ⟨_, _, _, .s (.s .z), ?_⟩); refine ⟨rfl, ?_⟩; go_frame) | ((with_reducible refine Hp.lds H ?_); refine ⟨rfl, by kernel_rfl, ?_⟩; refine ⟨_, s_look rfl, ?_⟩; refine ⟨_, _, rfl, ?_⟩; (first | refine ⟨_, _, _, .z, ?_⟩ | refine ⟨_, _, _, .s .z, ?_⟩ | refine ⟨_, _, _, .s (.s .z), ?_⟩); (fail); go_frame) | (fail) | ((with_reducible refine Hp.sta H ?_); refine ⟨rfl, ?_⟩; refine ⟨_, s_look rfl, ?_⟩; refine ⟨_, rfl, _, rfl, rfl, ?_⟩; (first | refine ⟨_, _, _, .z, ?_⟩ | refine ⟨_, _, _, .s .z, ?_⟩ | refine ⟨_, _, _, .s (.s .z), ?_⟩); refine ⟨rfl, rfl, ?_⟩; (clear H; intro w1 H; simp only [List.set] at H); go_frame) | (fail) | ((with_reducible refine Hp.bdl (t := 34) (parts := [_, _, _]) H ?_); refine ⟨rfl, mgC (bare0 m), b_mo3 _ _ _, ?_⟩; go_frame) | (fail))
  refine hw_start [_, _] [_] H (by kernel_rfl) (fun w1 H => ?_); have hS : HpW w _ w1 := ⟨[_, _], H⟩; simp only [List.cons_append, List.nil_append] at H
  (refine hw_take hS 0 (by decide +kernel) (by decide +kernel) (by decide +kernel) ⟨_, rfl, rfl, ?_, ?_, fun _ _ _ h => h, ?_⟩; rotate_left; (intro w _; go_simp; try with_reducible rfl); go_frame)
  (refine hw_take hS 1 (by decide +kernel) (by decide +kernel) (by decide +kernel) ⟨_, rfl, rfl, _, fun w h => ex_load rfl rfl (hw_ld (by kernel_rfl) (.z) rfl w h), fun _ _ _ h => h, ?_⟩; go_frame)
  (refine hw_take hS 2 (by decide +kernel) (by decide +kernel) (by decide +kernel) ⟨_, rfl, rfl, ?_, ?_, fun _ _ _ h => h, ?_⟩; rotate_left; (intro w _; go_simp; try with_reducible rfl); go_frame)
  (refine hw_take hS 3 (by decide +kernel) (by decide +kernel) (by decide +kernel) ⟨_, rfl, rfl, _, fun w h => ex_load rfl rfl (hw_ld (by kernel_rfl) (.z) rfl w h), fun _ _ _ h => h, ?_⟩; go_frame)
  (refine hw_take hS 4 (by decide +kernel) (by decide +kernel) (by decide +kernel) ⟨_, rfl, rfl, ?_, ?_, fun _ _ _ h => h, ?_⟩; rotate_left; (intro w _; go_simp; try with_reducible rfl); go_frame)
  (refine hw_one 5 (by decide +kernel) ⟨_, rfl, rfl, fun K hK => ?_⟩; refine hw_sto (v := .int .i64 m.ix) (by kernel_rfl) rfl rfl rfl H .z (Nat.le_of_ble_eq_true rfl) rfl (fun w1 HQ => ?_); (replace H : Hp w w1 (.blk _ _ (mgC (keepM 122 (bare0 m) m)) :: .blk _ _ (mgC mg0) :: .blk _ _ (mgC m) :: []) := HQ); refine hK _ _ ⟨[_, _], H⟩ ?_; clear hK K HQ; go_frame; have hS : HpW w _ w1 := ⟨[_, _], H⟩)
  (refine hw_take hS 6 (by decide +kernel) (by decide +kernel) (by decide +kernel) ⟨_, rfl, rfl, ?_, ?_, fun _ _ _ h => h, ?_⟩; rotate_left; (intro w _; go_simp; try with_reducible rfl); go_frame)
  (refine hw_one 7 (by decide +kernel) ⟨_, rfl, rfl, fun K hK => ?_⟩; refine hw_sto (v := .int .i64 m.ck) (by kernel_rfl) rfl rfl rfl H .z (Nat.le_of_ble_eq_true rfl) rfl (fun w1 HQ => ?_); (replace H : Hp w w1 (.blk _ _ (mgC (keepM 107 (keepM 122 (bare0 m) m) m)) :: .blk _ _ (mgC mg0) :: .blk _ _ (mgC m) :: []) := HQ); refine hK _ _ ⟨[_, _], H⟩ ?_; clear hK K HQ; go_frame; have hS : HpW w _ w1 := ⟨[_, _], H⟩)
  refine wpAnyH_done (by kernel_rfl) ?_ _
  clear hS; go_wp2_with (first | ((with_reducible refine Hp.box H ?_); (first | refine ⟨rfl, mgC m, rfl, ?_⟩); (clear H; intro gm w1 H); go_frame) | ((with_reducible refine Hp.allo (ty := 34) H ?_); refine ⟨rfl, ?_⟩; refine ⟨_, z_look rfl, ?_⟩; (clear H; intro gr w1 H); go_frame) | ((with_reducible refine Hp.ld H ?_); refine ⟨rfl, ?_⟩; refine ⟨c_look rfl, ?_⟩; refine ⟨_, _, rfl, ?_⟩; (first | refine ⟨_, _, _, .z, ?_⟩ | refine ⟨_, _, _, .s .z, ?_⟩ | refine ⟨_, _, _, .s (.s .z), ?_⟩); refine ⟨_, rfl, ?_⟩; go_frame) | ((with_reducible refine Hp.lda H ?_); refine ⟨rfl, by kernel_rfl, ?_⟩; refine ⟨_, s_look rfl, ?_⟩; refine ⟨_, rfl, ?_⟩; (first | refine ⟨_, _, _, .z, ?_⟩ | refine ⟨_, _, _, .s .z, ?_⟩ | refine ⟨_, _, _, .s (.s .z), ?_⟩); refine ⟨rfl, ?_⟩; go_frame) | ((with_reducible refine Hp.lds H ?_); refine ⟨rfl, by kernel_rfl, ?_⟩; refine ⟨_, s_look rfl, ?_⟩; refine ⟨_, _, rfl, ?_⟩; (first | refine ⟨_, _, _, .z, ?_⟩ | refine ⟨_, _, _, .s .z, ?_⟩ | refine ⟨_, _, _, .s (.s .z), ?_⟩); (fail); go_frame) | (fail) | ((with_reducible refine Hp.sta H ?_); refine ⟨rfl, ?_⟩; refine ⟨_, s_look rfl, ?_⟩; refine ⟨_, rfl, _, rfl, rfl, ?_⟩; (first | refine ⟨_, _, _, .z, ?_⟩ | refine ⟨_, _, _, .s .z, ?_⟩ | refine ⟨_, _, _, .s (.s .z), ?_⟩); refine ⟨rfl, rfl, ?_⟩; (clear H; intro w1 H; simp only [List.set] at H); go_frame) | (fail) | ((with_reducible refine Hp.bdl (t := 34) (parts := [_, _, _]) H ?_); refine ⟨rfl, mgC (bare0 m), b_mo3 _ _ _, ?_⟩; go_frame) | (fail)); exact bodyPost_ret (results_c rfl rfl (H.var (by kernel_rfl) (t := 34) (cs := mgC (keepM 107 (keepM 122 (bare0 m) m) m)) (.s .z) s_Msg)) rfl ⟨rfl, H.below⟩
set_option maxHeartbeats 4000000 in
theorem only_13 (m : Mg) (w : World) (hk : m.k = 13) : Calls Tryd.prog 55 #[.agg (mgC m).toArray] w (RetV w (.agg (mgC (bareM m)).toArray)) := by
  have hB : bareM m = (keepM 121 (keepM 109 (keepM 107 (keepM 122 (bare0 m) m) m) m) m) := by unfold bareM; rw [hk]; rfl
  have b1 : (m.k == 1) = false := by rw [hk]; rfl
  have b2 : (m.k == 2) = false := by rw [hk]; rfl
  have b3 : (m.k == 3) = false := by rw [hk]; rfl
  have b4 : (m.k == 4) = false := by rw [hk]; rfl
  have b5 : (m.k == 5) = false := by rw [hk]; rfl
  have b6 : (m.k == 6) = false := by rw [hk]; rfl
  have b7 : (m.k == 7) = false := by rw [hk]; rfl
  have b8 : (m.k == 8) = false := by rw [hk]; rfl
  have b9 : (m.k == 9) = false := by rw [hk]; rfl
  have b10 : (m.k == 10) = false := by rw [hk]; rfl
  have b11 : (m.k == 11) = false := by rw [hk]; rfl
  have b12 : (m.k == 12) = false := by rw [hk]; rfl
  have b13 : (m.k == 13) = true := by rw [hk]; rfl
  have b14 : (m.k == 14) = false := by rw [hk]; rfl
  have b15 : (m.k == 15) = false := by rw [hk]; rfl
  clear hk
  rw [hB]
  clear hB
  have H := Hp.nil w; go_enter Tryd.func55, Tryd.ntmps55; go_wp2_with (first | ((with_reducible refine Hp.box H ?_); (first | refine ⟨rfl, mgC m, rfl, ?_⟩); (clear H; intro gm w1 H); go_frame) | ((with_reducible refine Hp.allo (ty := 34) H ?_); refine ⟨rfl, ?_⟩; refine ⟨_, z_look rfl, ?_⟩; (clear H; intro gr w1 H); go_frame) | ((with_reducible refine Hp.ld H ?_); refine ⟨rfl, ?_⟩; refine ⟨c_look rfl, ?_⟩; refine ⟨_, _, rfl, ?_⟩; (first | refine ⟨_, _, _, .z, ?_⟩ | refine ⟨_, _, _, .s .z, ?_⟩ | refine ⟨_, _, _, .s (.s .z), ?_⟩); refine ⟨_, rfl, ?_⟩; go_frame) | ((with_reducible refine Hp.lda H ?_); refine ⟨rfl, by kernel_rfl, ?_⟩; refine ⟨_, s_look rfl, ?_⟩; refine ⟨_, rfl, ?_⟩; (first | refine ⟨_, _, _, .z, ?_⟩ | refine ⟨_, _, _, .s .z, ?_⟩ | refine ⟨_, _, _, .s (.s .z), ?_⟩); refine ⟨rfl, ?_⟩; go_frame) | ((with_reducible refine Hp.lds H ?_); refine ⟨rfl, by kernel_rfl, ?_⟩; refine ⟨_, s_look rfl, ?_⟩; refine ⟨_, _, rfl, ?_⟩; (first | refine ⟨_, _, _, .z, ?_⟩ | refine ⟨_, _, _, .s .z, ?_⟩ | refine ⟨_, _, _, .s (.s .z), ?_⟩); (fail); go_frame) | (fail) | ((with_reducible refine Hp.sta H ?_); refine ⟨rfl, ?_⟩; refine ⟨_, s_look rfl, ?_⟩; refine ⟨_, rfl, _, rfl, rfl, ?_⟩; (first | refine ⟨_, _, _, .z, ?_⟩ | refine ⟨_, _, _, .s .z, ?_⟩ | refine ⟨_, _, _, .s (.s .z), ?_⟩); refine ⟨rfl, rfl, ?_⟩; (clear H; intro w1 H; simp only [List.set] at H); go_frame) | (fail) | ((with_reducible refine Hp.bdl (t := 34) (parts := [_, _, _]) H ?_); refine ⟨rfl, mgC (bare0 m), b_mo3 _ _ _, ?_⟩; go_frame) | (fail))
  refine hw_start [_, _] [_] H (by kernel_rfl) (fun w1 H => ?_); have hS : HpW w _ w1 := ⟨[_, _], H⟩; simp only [List.cons_append, List.nil_append] at H
  (refine hw_take hS 0 (by decide +kernel) (by decide +kernel) (by decide +kernel) ⟨_, rfl, rfl, ?_, ?_, fun _ _ _ h => h, ?_⟩; rotate_left; (intro w _; go_simp; try with_reducible rfl); go_frame)
  (refine hw_take hS 1 (by decide +kernel) (by decide +kernel) (by decide +kernel) ⟨_, rfl, rfl, _, fun w h => ex_load rfl rfl (hw_ld (by kernel_rfl) (.z) rfl w h), fun _ _ _ h => h, ?_⟩; go_frame)
  (refine hw_take hS 2 (by decide +kernel) (by decide +kernel) (by decide +kernel) ⟨_, rfl, rfl, ?_, ?_, fun _ _ _ h => h, ?_⟩; rotate_left; (intro w _; go_simp; try with_reducible rfl); go_frame)
  (refine hw_take hS 3 (by decide +kernel) (by decide +kernel) (by decide +kernel) ⟨_, rfl, rfl, _, fun w h => ex_load rfl rfl (hw_ld (by kernel_rfl) (.z) rfl w h), fun _ _ _ h => h, ?_⟩; go_frame)
  (refine hw_take hS 4 (by decide +kernel) (by decide +kernel) (by decide +kernel) ⟨_, rfl, rfl, ?_, ?_, fun _ _ _ h => h, ?_⟩; rotate_left; (intro w _; go_simp; try with_reducible rfl); go_frame)
  (refine hw_take hS 5 (by decide +kernel) (by decide +kernel) (by decide +kernel) ⟨_, rfl, rfl, _, fun w h => ex_load rfl rfl (hw_ld (by kernel_rfl) (.z) rfl w h), fun _ _ _ h => h, ?_⟩; go_frame)
  (refine hw_take hS 6 (by decide +kernel) (by decide +kernel) (by decide +kernel) ⟨_, rfl, rfl, ?_, ?_, fun _ _ _ h => h, ?_⟩; rotate_left; (intro w _; go_simp; try with_reducible rfl); go_frame)
  (refine hw_take hS 7 (by decide +kernel) (by decide +kernel) (by decide +kernel) ⟨_, rfl, rfl, _, fun w h => ex_load rfl rfl (hw_ld (by kernel_rfl) (.z) rfl w h), fun _ _ _ h => h, ?_⟩; go_frame)
  (refine hw_take hS 8 (by decide +kernel) (by decide +kernel) (by decide +kernel) ⟨_, rfl, rfl, ?_, ?_, fun _ _ _ h => h, ?_⟩; rotate_left; (intro w _; go_simp; try with_reducible rfl); go_frame)
  (refine hw_one 9 (by decide +kernel) ⟨_, rfl, rfl, fun K hK => ?_⟩; refine hw_sto (v := .int .i64 m.ix) (by kernel_rfl) rfl rfl rfl H .z (Nat.le_of_ble_eq_true rfl) rfl (fun w1 HQ => ?_); (replace H : Hp w w1 (.blk _ _ (mgC (keepM 122 (bare0 m) m)) :: .blk _ _ (mgC mg0) :: .blk _ _ (mgC m) :: []) := HQ); refine hK _ _ ⟨[_, _], H⟩ ?_; clear hK K HQ; go_frame; have hS : HpW w _ w1 := ⟨[_, _], H⟩)
  (refine hw_take hS 10 (by decide +kernel) (by decide +kernel) (by decide +kernel) ⟨_, rfl, rfl, ?_, ?_, fun _ _ _ h => h, ?_⟩; rotate_left; (intro w _; go_simp; try with_reducible rfl); go_frame)
  (refine hw_one 11 (by decide +kernel) ⟨_, rfl, rfl, fun K hK => ?_⟩; refine hw_sto (v := .int .i64 m.ck) (by kernel_rfl) rfl rfl rfl H .z (Nat.le_of_ble_eq_true rfl) rfl (fun w1 HQ => ?_); (replace H : Hp w w1 (.blk _ _ (mgC (keepM 107 (keepM 122 (bare0 m) m) m)) :: .blk _ _ (mgC mg0) :: .blk _ _ (mgC m) :: []) := HQ); refine hK _ _ ⟨[_, _], H⟩ ?_; clear hK K HQ; go_frame; have hS : HpW w _ w1 := ⟨[_, _], H⟩)
  (refine hw_take hS 12 (by decide +kernel) (by decide +kernel) (by decide +kernel) ⟨_, rfl, rfl, ?_, ?_, fun _ _ _ h => h, ?_⟩; rotate_left; (intro w _; go_simp; try with_reducible rfl); go_frame)
  (refine hw_one 13 (by decide +kernel) ⟨_, rfl, rfl, fun K hK => ?_⟩; refine hw_sto (v := .int .i64 m.ct) (by kernel_rfl) rfl rfl rfl H .z (Nat.le_of_ble_eq_true rfl) rfl (fun w1 HQ => ?_); (replace H : Hp w w1 (.blk _ _ (mgC (keepM 109 (keepM 107 (keepM 122 (bare0 m) m) m) m)) :: .blk _ _ (mgC mg0) :: .blk _ _ (mgC m) :: []) := HQ); refine hK _ _ ⟨[_, _], H⟩ ?_; clear hK K HQ; go_frame; have hS : HpW w _ w1 := ⟨[_, _], H⟩)
  (refine hw_take hS 14 (by decide +kernel) (by decide +kernel) (by decide +kernel) ⟨_, rfl, rfl, ?_, ?_, fun _ _ _ h => h, ?_⟩; rotate_left; (intro w _; go_simp; try with_reducible rfl); go_frame)
  (refine hw_one 15 (by decide +kernel) ⟨_, rfl, rfl, fun K hK => ?_⟩; refine hw_sto (v := .slice m.yA m.yn m.yc) (by kernel_rfl) rfl rfl rfl H .z (Nat.le_of_ble_eq_true rfl) rfl (fun w1 HQ => ?_); (replace H : Hp w w1 (.blk _ _ (mgC (keepM 121 (keepM 109 (keepM 107 (keepM 122 (bare0 m) m) m) m) m)) :: .blk _ _ (mgC mg0) :: .blk _ _ (mgC m) :: []) := HQ); refine hK _ _ ⟨[_, _], H⟩ ?_; clear hK K HQ; go_frame; have hS : HpW w _ w1 := ⟨[_, _], H⟩)
  refine wpAnyH_done (by kernel_rfl) ?_ _
  clear hS; go_wp2_with (first | ((with_reducible refine Hp.box H ?_); (first | refine ⟨rfl, mgC m, rfl, ?_⟩); (clear H; intro gm w1 H); go_frame) | ((with_reducible refine Hp.allo (ty := 34) H ?_); refine ⟨rfl, ?_⟩; refine ⟨_, z_look rfl, ?_⟩; (clear H; intro gr w1 H); go_frame) | ((with_reducible refine Hp.ld H ?_); refine ⟨rfl, ?_⟩; refine ⟨c_look rfl, ?_⟩; refine ⟨_, _, rfl, ?_⟩; (first | refine ⟨_, _, _, .z, ?_⟩ | refine ⟨_, _, _, .s .z, ?_⟩ | refine ⟨_, _, _, .s (.s .z), ?_⟩); refine ⟨_, rfl, ?_⟩; go_frame) | ((with_reducible refine Hp.lda H ?_); refine ⟨rfl, by kernel_rfl, ?_⟩; refine ⟨_, s_look rfl, ?_⟩; refine ⟨_, rfl, ?_⟩; (first | refine ⟨_, _, _, .z, ?_⟩ | refine ⟨_, _, _, .s .z, ?_⟩ | refine ⟨_, _, _, .s (.s .z), ?_⟩); refine ⟨rfl, ?_⟩; go_frame) | ((with_reducible refine Hp.lds H ?_); refine ⟨rfl, by kernel_rfl, ?_⟩; refine ⟨_, s_look rfl, ?_⟩; refine ⟨_, _, rfl, ?_⟩; (first | refine ⟨_, _, _, .z, ?_⟩ | refine ⟨_, _, _, .s .z, ?_⟩ | refine ⟨_, _, _, .s (.s .z), ?_⟩); (fail); go_frame) | (fail) | ((with_reducible refine Hp.sta H ?_); refine ⟨rfl, ?_⟩; refine ⟨_, s_look rfl, ?_⟩; refine ⟨_, rfl, _, rfl, rfl, ?_⟩; (first | refine ⟨_, _, _, .z, ?_⟩ | refine ⟨_, _, _, .s .z, ?_⟩ | refine ⟨_, _, _, .s (.s .z), ?_⟩); refine ⟨rfl, rfl, ?_⟩; (clear H; intro w1 H; simp only [List.set] at H); go_frame) | (fail) | ((with_reducible refine Hp.bdl (t := 34) (parts := [_, _, _]) H ?_); refine ⟨rfl, mgC (bare0 m), b_mo3 _ _ _, ?_⟩; go_frame) | (fail)); exact bodyPost_ret (results_c rfl rfl (H.var (by kernel_rfl) (t := 34) (cs := mgC (keepM 121 (keepM 109 (keepM 107 (keepM 122 (bare0 m) m) m) m) m)) (.s .z) s_Msg)) rfl ⟨rfl, H.below⟩
set_option maxHeartbeats 4000000 in
theorem only_14 (m : Mg) (w : World) (hk : m.k = 14) : Calls Tryd.prog 55 #[.agg (mgC m).toArray] w (RetV w (.agg (mgC (bareM m)).toArray)) := by
  have hB : bareM m = (keepM 105 (bare0 m) m) := by unfold bareM; rw [hk]; rfl
  have b1 : (m.k == 1) = false := by rw [hk]; rfl
  have b2 : (m.k == 2) = false := by rw [hk]; rfl
  have b3 : (m.k == 3) = false := by rw [hk]; rfl
  have b4 : (m.k == 4) = false := by rw [hk]; rfl
  have b5 : (m.k == 5) = false := by rw [hk]; rfl
  have b6 : (m.k == 6) = false := by rw [hk]; rfl
  have b7 : (m.k == 7) = false := by rw [hk]; rfl
  have b8 : (m.k == 8) = false := by rw [hk]; rfl
  have b9 : (m.k == 9) = false := by rw [hk]; rfl
  have b10 : (m.k == 10) = false := by rw [hk]; rfl
  have b11 : (m.k == 11) = false := by rw [hk]; rfl
  have b12 : (m.k == 12) = false := by rw [hk]; rfl
  have b13 : (m.k == 13) = false := by rw [hk]; rfl
  have b14 : (m.k == 14) = true := by rw [hk]; rfl
  have b15 : (m.k == 15) = false := by rw [hk]; rfl
  clear hk
  rw [hB]
  clear hB
  have H := Hp.nil w; go_enter Tryd.func55, Tryd.ntmps55; go_wp2_with (first | ((with_reducible refine Hp.box H ?_); (first | refine ⟨rfl, mgC m, rfl, ?_⟩); (clear H; intro gm w1 H); go_frame) | ((with_reducible refine Hp.allo (ty := 34) H ?_); refine ⟨rfl, ?_⟩; refine ⟨_, z_look rfl, ?_⟩; (clear H; intro gr w1 H); go_frame) | ((with_reducible refine Hp.ld H ?_); refine ⟨rfl, ?_⟩; refine ⟨c_look rfl, ?_⟩; refine ⟨_, _, rfl, ?_⟩; (first | refine ⟨_, _, _, .z, ?_⟩ | refine ⟨_, _, _, .s .z, ?_⟩ | refine ⟨_, _, _, .s (.s .z), ?_⟩); refine ⟨_, rfl, ?_⟩; go_frame) | ((with_reducible refine Hp.lda H ?_); refine ⟨rfl, by kernel_rfl, ?_⟩; refine ⟨_, s_look rfl, ?_⟩; refine ⟨_, rfl, ?_⟩; (first | refine ⟨_, _, _, .z, ?_⟩ | refine ⟨_, _, _, .s .z, ?_⟩ | refine ⟨_, _, _, .s (.s .z), ?_⟩); refine ⟨rfl, ?_⟩; go_frame) | ((with_reducible refine Hp.lds H ?_); refine ⟨rfl, by kernel_rfl, ?_⟩; refine ⟨_, s_look rfl, ?_⟩; refine ⟨_, _, rfl, ?_⟩; (first | refine ⟨_, _, _, .z, ?_⟩ | refine ⟨_, _, _, .s .z, ?_⟩ | refine ⟨_, _, _, .s (.s .z), ?_⟩); (fail); go_frame) | ((with_reducible refine Hp.sto H ?_); refine ⟨rfl, ?_⟩; refine ⟨c_look rfl, ?_⟩; refine ⟨_, _, rfl, ?_⟩; (first | refine ⟨_, _, _, .z, ?_⟩ | refine ⟨_, _, _, .s .z, ?_⟩ | refine ⟨_, _, _, .s (.s .z), ?_⟩); refine ⟨⟨_, rfl⟩, rfl, ?_⟩; (clear H; intro w1 H); (replace H : Hp _ w1 (.blk _ _ (mgC (keepM 105 (bare0 m) m)) :: _) := H); go_frame) | ((with_reducible refine Hp.sta H ?_); refine ⟨rfl, ?_⟩; refine ⟨_, s_look rfl, ?_⟩; refine ⟨_, rfl, _, rfl, rfl, ?_⟩; (first | refine ⟨_, _, _, .z, ?_⟩ | refine ⟨_, _, _, .s .z, ?_⟩ | refine ⟨_, _, _, .s (.s .z), ?_⟩); refine ⟨rfl, rfl, ?_⟩; (clear H; intro w1 H; simp only [List.set] at H); go_frame) | (fail) | ((with_reducible refine Hp.bdl (t := 34) (parts := [_, _, _]) H ?_); refine ⟨rfl, mgC (bare0 m), b_mo3 _ _ _, ?_⟩; go_frame) | (fail))
  have hS := True.intro
  clear hS; go_wp2_with (first | ((with_reducible refine Hp.box H ?_); (first | refine ⟨rfl, mgC m, rfl, ?_⟩); (clear H; intro gm w1 H); go_frame) | ((with_reducible refine Hp.allo (ty := 34) H ?_); refine ⟨rfl, ?_⟩; refine ⟨_, z_look rfl, ?_⟩; (clear H; intro gr w1 H); go_frame) | ((with_reducible refine Hp.ld H ?_); refine ⟨rfl, ?_⟩; refine ⟨c_look rfl, ?_⟩; refine ⟨_, _, rfl, ?_⟩; (first | refine ⟨_, _, _, .z, ?_⟩ | refine ⟨_, _, _, .s .z, ?_⟩ | refine ⟨_, _, _, .s (.s .z), ?_⟩); refine ⟨_, rfl, ?_⟩; go_frame) | ((with_reducible refine Hp.lda H ?_); refine ⟨rfl, by kernel_rfl, ?_⟩; refine ⟨_, s_look rfl, ?_⟩; refine ⟨_, rfl, ?_⟩; (first | refine ⟨_, _, _, .z, ?_⟩ | refine ⟨_, _, _, .s .z, ?_⟩ | refine ⟨_, _, _, .s (.s .z), ?_⟩); refine ⟨rfl, ?_⟩; go_frame) | ((with_reducible refine Hp.lds H ?_); refine ⟨rfl, by kernel_rfl, ?_⟩; refine ⟨_, s_look rfl, ?_⟩; refine ⟨_, _, rfl, ?_⟩; (first | refine ⟨_, _, _, .z, ?_⟩ | refine ⟨_, _, _, .s .z, ?_⟩ | refine ⟨_, _, _, .s (.s .z), ?_⟩); (fail); go_frame) | ((with_reducible refine Hp.sto H ?_); refine ⟨rfl, ?_⟩; refine ⟨c_look rfl, ?_⟩; refine ⟨_, _, rfl, ?_⟩; (first | refine ⟨_, _, _, .z, ?_⟩ | refine ⟨_, _, _, .s .z, ?_⟩ | refine ⟨_, _, _, .s (.s .z), ?_⟩); refine ⟨⟨_, rfl⟩, rfl, ?_⟩; (clear H; intro w1 H); (replace H : Hp _ w1 (.blk _ _ (mgC (keepM 105 (bare0 m) m)) :: _) := H); go_frame) | ((with_reducible refine Hp.sta H ?_); refine ⟨rfl, ?_⟩; refine ⟨_, s_look rfl, ?_⟩; refine ⟨_, rfl, _, rfl, rfl, ?_⟩; (first | refine ⟨_, _, _, .z, ?_⟩ | refine ⟨_, _, _, .s .z, ?_⟩ | refine ⟨_, _, _, .s (.s .z), ?_⟩); refine ⟨rfl, rfl, ?_⟩; (clear H; intro w1 H; simp only [List.set] at H); go_frame) | (fail) | ((with_reducible refine Hp.bdl (t := 34) (parts := [_, _, _]) H ?_); refine ⟨rfl, mgC (bare0 m), b_mo3 _ _ _, ?_⟩; go_frame) | (fail)); exact bodyPost_ret (results_c rfl rfl (H.var (by kernel_rfl) (t := 34) (cs := mgC (keepM 105 (bare0 m) m)) (.s .z) s_Msg)) rfl ⟨rfl, H.below⟩
set_option maxHeartbeats 4000000 in
theorem only_15 (m : Mg) (w : World) (hk : m.k = 15) : Calls Tryd.prog 55 #[.agg (mgC m).toArray] w (RetV w (.agg (mgC (bareM m)).toArray)) := by
  have hB : bareM m = (keepM 107 (keepM 122 (bare0 m) m) m) := by unfold bareM; rw [hk]; rfl
  have b1 : (m.k == 1) = false := by rw [hk]; rfl
  have b2 : (m.k == 2) = false := by rw [hk]; rfl
  have b3 : (m.k == 3) = false := by rw [hk]; rfl
  have b4 : (m.k == 4) = false := by rw [hk]; rfl
  have b5 : (m.k == 5) = false := by rw [hk]; rfl
  have b6 : (m.k == 6) = false := by rw [hk]; rfl
  have b7 : (m.k == 7) = false := by rw [hk]; rfl
  have b8 : (m.k == 8) = false := by rw [hk]; rfl
  have b9 : (m.k == 9) = false := by rw [hk]; rfl
  have b10 : (m.k == 10) = false := by rw [hk]; rfl
  have b11 : (m.k == 11) = false := by rw [hk]; rfl
  have b12 : (m.k == 12) = false := by rw [hk]; rfl
  have b13 : (m.k == 13) = false := by rw [hk]; rfl
  have b14 : (m.k == 14) = false := by rw [hk]; rfl
  have b15 : (m.k == 15) = true := by rw [hk]; rfl
  clear hk
  rw [hB]
  clear hB
  have H := Hp.nil w; go_enter Tryd.func55, Tryd.ntmps55; go_wp2_with (first | ((with_reducible refine Hp.box H ?_); (first | refine ⟨rfl, mgC m, rfl, ?_⟩); (clear H; intro gm w1 H); go_frame) | ((with_reducible refine Hp.allo (ty := 34) H ?_); refine ⟨rfl, ?_⟩; refine ⟨_, z_look rfl, ?_⟩; (clear H; intro gr w1 H); go_frame) | ((with_reducible refine Hp.ld H ?_); refine ⟨rfl, ?_⟩; refine ⟨c_look rfl, ?_⟩; refine ⟨_, _, rfl, ?_⟩; (first | refine ⟨_, _, _, .z, ?_⟩ | refine ⟨_, _, _, .s .z, ?_⟩ | refine ⟨_, _, _, .s (.s .z), ?_⟩); refine ⟨_, rfl, ?_⟩; go_frame) | ((with_reducible refine Hp.lda H ?_); refine ⟨rfl, by kernel_rfl, ?_⟩; refine ⟨_, s_look rfl, ?_⟩; refine ⟨_, rfl, ?_⟩; (first | refine ⟨_, _, _, .z, ?_⟩ | refine ⟨_, _, _, .s .z, ?_⟩ | refine ⟨_, _, _, .s (.s .z), ?_⟩); refine ⟨rfl, ?_⟩; go_frame) | ((with_reducible refine Hp.lds H ?_); refine ⟨rfl, by kernel_rfl, ?_⟩; refine ⟨_, s_look rfl, ?_⟩; refine ⟨_, _, rfl, ?_⟩; (first | refine ⟨_, _, _, .z, ?_⟩ | refine ⟨_, _, _, .s .z, ?_⟩ | refine ⟨_, _, _, .s (.s .z), ?_⟩); (fail); go_frame) | (fail) | ((with_reducible refine Hp.sta H ?_); refine ⟨rfl, ?_⟩; refine ⟨_, s_look rfl, ?_⟩; refine ⟨_, rfl, _, rfl, rfl, ?_⟩; (first | refine ⟨_, _, _, .z, ?_⟩ | refine ⟨_, _, _, .s .z, ?_⟩ | refine ⟨_, _, _, .s (.s .z), ?_⟩); refine ⟨rfl, rfl, ?_⟩; (clear H; intro w1 H; simp only [List.set] at H); go_frame) | (fail) | ((with_reducible refine Hp.bdl (t := 34) (parts := [_, _, _]) H ?_); refine ⟨rfl, mgC (bare0 m), b_mo3 _ _ _, ?_⟩; go_frame) | (fail))
  refine hw_start [_, _] [_] H (by kernel_rfl) (fun w1 H => ?_); have hS : HpW w _ w1 := ⟨[_, _], H⟩; simp only [List.cons_append, List.nil_append] at H
  (refine hw_take hS 0 (by decide +kernel) (by decide +kernel) (by decide +kernel) ⟨_, rfl, rfl, ?_, ?_, fun _ _ _ h => h, ?_⟩; rotate_left; (intro w _; go_simp; try with_reducible rfl); go_frame)
  (refine hw_take hS 1 (by decide +kernel) (by decide +kernel) (by decide +kernel) ⟨_, rfl, rfl, _, fun w h => ex_load rfl rfl (hw_ld (by kernel_rfl) (.z) rfl w h), fun _ _ _ h => h, ?_⟩; go_frame)
  (refine hw_take hS 2 (by decide +kernel) (by decide +kernel) (by decide +kernel) ⟨_, rfl, rfl, ?_, ?_, fun _ _ _ h => h, ?_⟩; rotate_left; (intro w _; go_simp; try with_reducible rfl); go_frame)
  (refine hw_take hS 3 (by decide +kernel) (by decide +kernel) (by decide +kernel) ⟨_, rfl, rfl, _, fun w h => ex_load rfl rfl (hw_ld (by kernel_rfl) (.z) rfl w h), fun _ _ _ h => h, ?_⟩; go_frame)
  (refine hw_take hS 4 (by decide +kernel) (by decide +kernel) (by decide +kernel) ⟨_, rfl, rfl, ?_, ?_, fun _ _ _ h => h, ?_⟩; rotate_left; (intro w _; go_simp; try with_reducible rfl); go_frame)
  (refine hw_one 5 (by decide +kernel) ⟨_, rfl, rfl, fun K hK => ?_⟩; refine hw_sto (v := .int .i64 m.ix) (by kernel_rfl) rfl rfl rfl H .z (Nat.le_of_ble_eq_true rfl) rfl (fun w1 HQ => ?_); (replace H : Hp w w1 (.blk _ _ (mgC (keepM 122 (bare0 m) m)) :: .blk _ _ (mgC mg0) :: .blk _ _ (mgC m) :: []) := HQ); refine hK _ _ ⟨[_, _], H⟩ ?_; clear hK K HQ; go_frame; have hS : HpW w _ w1 := ⟨[_, _], H⟩)
  (refine hw_take hS 6 (by decide +kernel) (by decide +kernel) (by decide +kernel) ⟨_, rfl, rfl, ?_, ?_, fun _ _ _ h => h, ?_⟩; rotate_left; (intro w _; go_simp; try with_reducible rfl); go_frame)
  (refine hw_one 7 (by decide +kernel) ⟨_, rfl, rfl, fun K hK => ?_⟩; refine hw_sto (v := .int .i64 m.ck) (by kernel_rfl) rfl rfl rfl H .z (Nat.le_of_ble_eq_true rfl) rfl (fun w1 HQ => ?_); (replace H : Hp w w1 (.blk _ _ (mgC (keepM 107 (keepM 122 (bare0 m) m) m)) :: .blk _ _ (mgC mg0) :: .blk _ _ (mgC m) :: []) := HQ); refine hK _ _ ⟨[_, _], H⟩ ?_; clear hK K HQ; go_frame; have hS : HpW w _ w1 := ⟨[_, _], H⟩)
  refine wpAnyH_done (by kernel_rfl) ?_ _
  clear hS; go_wp2_with (first | ((with_reducible refine Hp.box H ?_); (first | refine ⟨rfl, mgC m, rfl, ?_⟩); (clear H; intro gm w1 H); go_frame) | ((with_reducible refine Hp.allo (ty := 34) H ?_); refine ⟨rfl, ?_⟩; refine ⟨_, z_look rfl, ?_⟩; (clear H; intro gr w1 H); go_frame) | ((with_reducible refine Hp.ld H ?_); refine ⟨rfl, ?_⟩; refine ⟨c_look rfl, ?_⟩; refine ⟨_, _, rfl, ?_⟩; (first | refine ⟨_, _, _, .z, ?_⟩ | refine ⟨_, _, _, .s .z, ?_⟩ | refine ⟨_, _, _, .s (.s .z), ?_⟩); refine ⟨_, rfl, ?_⟩; go_frame) | ((with_reducible refine Hp.lda H ?_); refine ⟨rfl, by kernel_rfl, ?_⟩; refine ⟨_, s_look rfl, ?_⟩; refine ⟨_, rfl, ?_⟩; (first | refine ⟨_, _, _, .z, ?_⟩ | refine ⟨_, _, _, .s .z, ?_⟩ | refine ⟨_, _, _, .s (.s .z), ?_⟩); refine ⟨rfl, ?_⟩; go_frame) | ((with_reducible refine Hp.lds H ?_); refine ⟨rfl, by kernel_rfl, ?_⟩; refine ⟨_, s_look rfl, ?_⟩; refine ⟨_, _, rfl, ?_⟩; (first | refine ⟨_, _, _, .z, ?_⟩ | refine ⟨_, _, _, .s .z, ?_⟩ | refine ⟨_, _, _, .s (.s .z), ?_⟩); (fail); go_frame) | (fail) | ((with_reducible refine Hp.sta H ?_); refine ⟨rfl, ?_⟩; refine ⟨_, s_look rfl, ?_⟩; refine ⟨_, rfl, _, rfl, rfl, ?_⟩; (first | refine ⟨_, _, _, .z, ?_⟩ | refine ⟨_, _, _, .s .z, ?_⟩ | refine ⟨_, _, _, .s (.s .z), ?_⟩); refine ⟨rfl, rfl, ?_⟩; (clear H; intro w1 H; simp only [List.set] at H); go_frame) | (fail) | ((with_reducible refine Hp.bdl (t := 34) (parts := [_, _, _]) H ?_); refine ⟨rfl, mgC (bare0 m), b_mo3 _ _ _, ?_⟩; go_frame) | (fail)); exact bodyPost_ret (results_c rfl rfl (H.var (by kernel_rfl) (t := 34) (cs := mgC (keepM 107 (keepM 122 (bare0 m) m) m)) (.s .z) s_Msg)) rfl ⟨rfl, H.below⟩
theorem only_any (m : Mg) (w : World) : Calls Tryd.prog 55 #[.agg (mgC m).toArray] w (RetV w (.agg (mgC (bareM m)).toArray)) := by
  cases hk : kindB m.k
  · exact only_0 m w hk
  rcases kinds hk with h | h | h | h | h | h | h | h | h | h | h | h | h | h | h
  · exact only_1 m w h
  · exact only_2 m w h
  · exact only_3 m w h
  · exact only_4 m w h
  · exact only_5 m w h
  · exact only_6 m w h
  · exact only_7 m w h
  · exact only_8 m w h
  · exact only_9 m w h
  · exact only_10 m w h
  · exact only_11 m w h
  · exact only_12 m w h
  · exact only_13 m w h
  · exact only_14 m w h
  · exact only_15 m w h
end Go.Proofs.YtiieakndjheknaaDoor
