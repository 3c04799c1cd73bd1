/-
  THE WALKS OF THE REFERENCE's MayOp, May, Ballot.
-/
import Derived.Test.YtiieakndjheknaaDoorPk3
namespace Go.Proofs.YtiieakndjheknaaDoor
set_option maxRecDepth 100000
open Go.RowKit
set_option linter.unusedVariables false
set_option linter.unusedSimpArgs false
set_option maxHeartbeats 4000000 in
theorem rmayOp_any (k : Int) (s0 s1 s2 : ByteArray) (w : World) (h0 : s0.size ≤ maxLen) (h1 : s1.size ≤ maxLen) (h2 : s2.size ≤ maxLen) : Calls Tryd.prog 72 #[.agg (opC k s0 s1 s2).toArray] w (RetV w (.bool (mayOpB k s0 s1 s2))) := by
  have H := Hp.nil w
  unfold maxLen at h0 h1 h2
  have hk : k = 1 ∨ k = 2 ∨ k = 3 ∨ k = 4 ∨ ((k == 1) = false ∧ (k == 2) = false ∧ (k == 3) = false ∧ (k == 4) = false) := by simp only [beq_eq_false_iff_ne]; omega
  cases d0 : decide ((s0.size : Int) < 1)
  · cases d1 : decide ((8 : Int) < s0.size)
    · cases d2 : decide ((16 : Int) < s1.size)
      · cases d3 : decide ((16 : Int) < s2.size)
        · have b0 : decide ((1 : Int) ≤ s0.size) = true := by rw [decide_eq_false_iff_not] at d0; exact decide_eq_true (by omega)
          have b1 : decide ((s0.size : Int) ≤ 8) = true := by rw [decide_eq_false_iff_not] at d1; exact decide_eq_true (by omega)
          have b2 : decide ((s1.size : Int) ≤ 16) = true := by rw [decide_eq_false_iff_not] at d2; exact decide_eq_true (by omega)
          have b3 : decide ((s2.size : Int) ≤ 16) = true := by rw [decide_eq_false_iff_not] at d3; exact decide_eq_true (by omega)
          have hB : mayOpB k s0 s1 s2 = ((((k == 1) || (k == 3)) && (mtB s2 && mtB s1)) || ((k == 2) && mtB s1) || (k == 4)) := by unfold mayOpB; rw [b0, b1, b2, b3]; simp
          clear b0 b1 b2 b3
          rw [hB]
          clear hB
          rcases hk with rfl | rfl | rfl | rfl | ⟨k1, k2, k3, k4⟩
          all_goals
            cases e1 : s1.toList.isEmpty
            all_goals
              cases e2 : s2.toList.isEmpty
              all_goals
                go_enter Tryd.func72, Tryd.ntmps72
                go_wp2_with (first | ((with_reducible refine Hp.box H ?_); (first | refine ⟨rfl, [.pointer _], rfl, ?_⟩ | refine ⟨rfl, [.int _ _], rfl, ?_⟩ | refine ⟨rfl, [.slice _ _ _], rfl, ?_⟩ | refine ⟨rfl, [.bool _], rfl, ?_⟩ | refine ⟨rfl, [.string _], rfl, ?_⟩ | refine ⟨rfl, _, rfl, ?_⟩); (clear H; intro g1 w1 H); go_frame) | ((with_reducible refine Hp.ld H ?_); refine ⟨rfl, ?_⟩; refine ⟨c_look rfl, ?_⟩; refine ⟨_, _, rfl, ?_⟩; ((repeat ((fail_if_success refine ⟨_, _, _, .z, ?_⟩); refine hs ?_)); refine ⟨_, _, _, .z, ?_⟩); refine ⟨_, rfl, ?_⟩; go_frame) | (fail))
                all_goals (go_ret; refine ⟨ret_bool ?_, H.below⟩; simp [mtB, *])
        · have hB : mayOpB k s0 s1 s2 = false := by
            cases h : mayOpB k s0 s1 s2
            · rfl
            · have := mayOp_bd h; rw [decide_eq_true_eq] at d3; omega
          rw [hB]
          clear hB hk
          go_enter Tryd.func72, Tryd.ntmps72
          go_wp2_with (first | ((with_reducible refine Hp.box H ?_); (first | refine ⟨rfl, [.pointer _], rfl, ?_⟩ | refine ⟨rfl, [.int _ _], rfl, ?_⟩ | refine ⟨rfl, [.slice _ _ _], rfl, ?_⟩ | refine ⟨rfl, [.bool _], rfl, ?_⟩ | refine ⟨rfl, [.string _], rfl, ?_⟩ | refine ⟨rfl, _, rfl, ?_⟩); (clear H; intro g1 w1 H); go_frame) | ((with_reducible refine Hp.ld H ?_); refine ⟨rfl, ?_⟩; refine ⟨c_look rfl, ?_⟩; refine ⟨_, _, rfl, ?_⟩; ((repeat ((fail_if_success refine ⟨_, _, _, .z, ?_⟩); refine hs ?_)); refine ⟨_, _, _, .z, ?_⟩); refine ⟨_, rfl, ?_⟩; go_frame) | (fail))
          go_ret
          exact ⟨rfl, H.below⟩
      · have hB : mayOpB k s0 s1 s2 = false := by
          cases h : mayOpB k s0 s1 s2
          · rfl
          · have := mayOp_bd h; rw [decide_eq_true_eq] at d2; omega
        rw [hB]
        clear hB hk
        go_enter Tryd.func72, Tryd.ntmps72
        go_wp2_with (first | ((with_reducible refine Hp.box H ?_); (first | refine ⟨rfl, [.pointer _], rfl, ?_⟩ | refine ⟨rfl, [.int _ _], rfl, ?_⟩ | refine ⟨rfl, [.slice _ _ _], rfl, ?_⟩ | refine ⟨rfl, [.bool _], rfl, ?_⟩ | refine ⟨rfl, [.string _], rfl, ?_⟩ | refine ⟨rfl, _, rfl, ?_⟩); (clear H; intro g1 w1 H); go_frame) | ((with_reducible refine Hp.ld H ?_); refine ⟨rfl, ?_⟩; refine ⟨c_look rfl, ?_⟩; refine ⟨_, _, rfl, ?_⟩; ((repeat ((fail_if_success refine ⟨_, _, _, .z, ?_⟩); refine hs ?_)); refine ⟨_, _, _, .z, ?_⟩); refine ⟨_, rfl, ?_⟩; go_frame) | (fail))
        go_ret
        exact ⟨rfl, H.below⟩
    · have hB : mayOpB k s0 s1 s2 = false := by
        cases h : mayOpB k s0 s1 s2
        · rfl
        · have := mayOp_bd h; rw [decide_eq_true_eq] at d1; omega
      rw [hB]
      clear hB hk
      go_enter Tryd.func72, Tryd.ntmps72
      go_wp2_with (first | ((with_reducible refine Hp.box H ?_); (first | refine ⟨rfl, [.pointer _], rfl, ?_⟩ | refine ⟨rfl, [.int _ _], rfl, ?_⟩ | refine ⟨rfl, [.slice _ _ _], rfl, ?_⟩ | refine ⟨rfl, [.bool _], rfl, ?_⟩ | refine ⟨rfl, [.string _], rfl, ?_⟩ | refine ⟨rfl, _, rfl, ?_⟩); (clear H; intro g1 w1 H); go_frame) | ((with_reducible refine Hp.ld H ?_); refine ⟨rfl, ?_⟩; refine ⟨c_look rfl, ?_⟩; refine ⟨_, _, rfl, ?_⟩; ((repeat ((fail_if_success refine ⟨_, _, _, .z, ?_⟩); refine hs ?_)); refine ⟨_, _, _, .z, ?_⟩); refine ⟨_, rfl, ?_⟩; go_frame) | (fail))
      go_ret
      exact ⟨rfl, H.below⟩
  · have hB : mayOpB k s0 s1 s2 = false := by
      cases h : mayOpB k s0 s1 s2
      · rfl
      · have := mayOp_bd h; rw [decide_eq_true_eq] at d0; omega
    rw [hB]
    clear hB hk
    go_enter Tryd.func72, Tryd.ntmps72
    go_wp2_with (first | ((with_reducible refine Hp.box H ?_); (first | refine ⟨rfl, [.pointer _], rfl, ?_⟩ | refine ⟨rfl, [.int _ _], rfl, ?_⟩ | refine ⟨rfl, [.slice _ _ _], rfl, ?_⟩ | refine ⟨rfl, [.bool _], rfl, ?_⟩ | refine ⟨rfl, [.string _], rfl, ?_⟩ | refine ⟨rfl, _, rfl, ?_⟩); (clear H; intro g1 w1 H); go_frame) | ((with_reducible refine Hp.ld H ?_); refine ⟨rfl, ?_⟩; refine ⟨c_look rfl, ?_⟩; refine ⟨_, _, rfl, ?_⟩; ((repeat ((fail_if_success refine ⟨_, _, _, .z, ?_⟩); refine hs ?_)); refine ⟨_, _, _, .z, ?_⟩); refine ⟨_, rfl, ?_⟩; go_frame) | (fail))
    go_ret
    exact ⟨rfl, H.below⟩
theorem rmayOp_b (k : Int) (s0 s1 s2 : ByteArray) (w : World) (b : Bool) (ho : mayOpB k s0 s1 s2 = b) (h0 : s0.size ≤ maxLen) (h1 : s1.size ≤ maxLen) (h2 : s2.size ≤ maxLen) : Calls Tryd.prog 72 #[.agg (opC k s0 s1 s2).toArray] w (RetV w (.bool b)) := by
  subst ho
  exact rmayOp_any k s0 s1 s2 w h0 h1 h2
section
variable {a : Act} {w0 w : World} {Q : Exit → Act → World → Prop} {L : List Item} {ops : Array Oper} {rest : List Oper} {d : Option Tmp} {tt t2 : TypeId} {x y : Operand} {ps : String} {af : Array Edge} {gd : Option (Nat × Bool)}
theorem wl_eqOpB (h : Region.wanted { dst := d, op := .binOp .eql 25 x y t2, type := tt, pos := ps, after := af, guard := gd } (yielded ops a.tmps) = true ∧ ∃ k s0 s1 s2 k' s0' s1' s2', a.eval x = .agg (opC k s0 s1 s2).toArray ∧ a.eval y = .agg (opC k' s0' s1' s2').toArray ∧ ∃ b, opEq k s0 s1 s2 k' s0' s1' s2' = b ∧ wpList Tryd.prog ops Q rest (a.put d (.bool b)) w) :
    wpList Tryd.prog ops Q ({ dst := d, op := .binOp .eql 25 x y t2, type := tt, pos := ps, after := af, guard := gd } :: rest) a w := by
  obtain ⟨h1, _, _, _, _, _, _, _, _, hx, hy, b, rfl, h2⟩ := h
  exact wl_val _ h1 (ex_eqOp rfl hx hy) h2
end
theorem b_op0 : Tryd.prog.built 25 [] = some (opC 0 .empty .empty .empty).toArray := by kernel_rfl
theorem noop_op (e : En) : isNoop e = ((e.k == 1) && ((e.c == 0) && ((e.s == 0) && opEq e.ok e.s0 e.s1 e.s2 0 .empty .empty .empty))) := by
  unfold isNoop opEq
  simp only [mt_beq]
theorem bne_c4 {c k : Int} (h : c < 4) : (k != 1) = (decide (c < 4) && !k == 1) := by rw [decide_eq_true h, Bool.true_and]; rfl
set_option maxHeartbeats 4000000 in
theorem rmay_any (e : En) (w : World) (hs : Sm e) : Calls Tryd.prog 68 #[.agg (enC e).toArray] w (RetV w (.bool (mayB e))) := by
  have H := Hp.nil w
  obtain ⟨h0, h1, h2⟩ := hs
  have hn0 := noop_op e
  cases hk : (e.k == 1)
  · have hn : isNoop e = false := by rw [isNoop, hk]; rfl
    clear hn0
    cases ho : mayOpB e.ok e.s0 e.s1 e.s2
    all_goals
      cases hc : (e.c == 0)
      · have ho0 := True.intro
        (go_enter Tryd.func68, Tryd.ntmps68; go_wp2_with (first | ((with_reducible refine Hp.box H ?_); (first | refine ⟨rfl, [.pointer _], rfl, ?_⟩ | refine ⟨rfl, [.int _ _], rfl, ?_⟩ | refine ⟨rfl, [.slice _ _ _], rfl, ?_⟩ | refine ⟨rfl, [.bool _], rfl, ?_⟩ | refine ⟨rfl, [.string _], rfl, ?_⟩ | refine ⟨rfl, _, rfl, ?_⟩); (clear H; intro g1 w1 H); go_frame) | ((with_reducible refine Hp.ld H ?_); refine ⟨rfl, ?_⟩; refine ⟨c_look rfl, ?_⟩; refine ⟨_, _, rfl, ?_⟩; ((repeat ((fail_if_success refine ⟨_, _, _, .z, ?_⟩); refine hs ?_)); refine ⟨_, _, _, .z, ?_⟩); refine ⟨_, rfl, ?_⟩; go_frame) | ((with_reducible refine Hp.lda H ?_); refine ⟨rfl, by kernel_rfl, ?_⟩; refine ⟨_, s_look rfl, ?_⟩; refine ⟨_, rfl, ?_⟩; ((repeat ((fail_if_success refine ⟨_, _, _, .z, ?_⟩); refine hs ?_)); refine ⟨_, _, _, .z, ?_⟩); refine ⟨rfl, ?_⟩; go_frame) | ((with_reducible refine Hp.lds H ?_); refine ⟨rfl, by kernel_rfl, ?_⟩; refine ⟨_, s_look rfl, ?_⟩; refine ⟨_, _, rfl, ?_⟩; ((repeat ((fail_if_success refine ⟨_, _, _, .z, ?_⟩); refine hs ?_)); refine ⟨_, _, _, .z, ?_⟩); refine ⟨opC e.ok e.s0 e.s1 e.s2, rfl, rfl, ?_⟩; go_frame) | ((with_reducible refine Hp.bdl (t := 25) (parts := []) H ?_); refine ⟨rfl, _, b_op0, ?_⟩; go_frame) | ((with_reducible refine wl_eqOpB ?_); refine ⟨rfl, _, _, _, _, _, _, _, _, rfl, rfl, _, ho0, ?_⟩; go_frame) | ((with_reducible refine (rmayOp_b _ _ _ _ _ _ ho h0 h1 h2).mono ?_); rintro _ w1 ⟨rfl, hb⟩; replace H := H.call hb; clear hb)); all_goals (go_ret; refine ⟨ret_bool ?_, H.below⟩; rw [mayB, hn]; simp [*] <;> (first | rfl | (intros; omega) | exact bne_c4 (by omega))))
      · cases hs : (e.s == 0)
        · have ho0 := True.intro
          (go_enter Tryd.func68, Tryd.ntmps68; go_wp2_with (first | ((with_reducible refine Hp.box H ?_); (first | refine ⟨rfl, [.pointer _], rfl, ?_⟩ | refine ⟨rfl, [.int _ _], rfl, ?_⟩ | refine ⟨rfl, [.slice _ _ _], rfl, ?_⟩ | refine ⟨rfl, [.bool _], rfl, ?_⟩ | refine ⟨rfl, [.string _], rfl, ?_⟩ | refine ⟨rfl, _, rfl, ?_⟩); (clear H; intro g1 w1 H); go_frame) | ((with_reducible refine Hp.ld H ?_); refine ⟨rfl, ?_⟩; refine ⟨c_look rfl, ?_⟩; refine ⟨_, _, rfl, ?_⟩; ((repeat ((fail_if_success refine ⟨_, _, _, .z, ?_⟩); refine hs ?_)); refine ⟨_, _, _, .z, ?_⟩); refine ⟨_, rfl, ?_⟩; go_frame) | ((with_reducible refine Hp.lda H ?_); refine ⟨rfl, by kernel_rfl, ?_⟩; refine ⟨_, s_look rfl, ?_⟩; refine ⟨_, rfl, ?_⟩; ((repeat ((fail_if_success refine ⟨_, _, _, .z, ?_⟩); refine hs ?_)); refine ⟨_, _, _, .z, ?_⟩); refine ⟨rfl, ?_⟩; go_frame) | ((with_reducible refine Hp.lds H ?_); refine ⟨rfl, by kernel_rfl, ?_⟩; refine ⟨_, s_look rfl, ?_⟩; refine ⟨_, _, rfl, ?_⟩; ((repeat ((fail_if_success refine ⟨_, _, _, .z, ?_⟩); refine hs ?_)); refine ⟨_, _, _, .z, ?_⟩); refine ⟨opC e.ok e.s0 e.s1 e.s2, rfl, rfl, ?_⟩; go_frame) | ((with_reducible refine Hp.bdl (t := 25) (parts := []) H ?_); refine ⟨rfl, _, b_op0, ?_⟩; go_frame) | ((with_reducible refine wl_eqOpB ?_); refine ⟨rfl, _, _, _, _, _, _, _, _, rfl, rfl, _, ho0, ?_⟩; go_frame) | ((with_reducible refine (rmayOp_b _ _ _ _ _ _ ho h0 h1 h2).mono ?_); rintro _ w1 ⟨rfl, hb⟩; replace H := H.call hb; clear hb)); all_goals (go_ret; refine ⟨ret_bool ?_, H.below⟩; rw [mayB, hn]; simp [*] <;> (first | rfl | (intros; omega) | exact bne_c4 (by omega))))
        · cases ho0 : opEq e.ok e.s0 e.s1 e.s2 0 .empty .empty .empty
          · (go_enter Tryd.func68, Tryd.ntmps68; go_wp2_with (first | ((with_reducible refine Hp.box H ?_); (first | refine ⟨rfl, [.pointer _], rfl, ?_⟩ | refine ⟨rfl, [.int _ _], rfl, ?_⟩ | refine ⟨rfl, [.slice _ _ _], rfl, ?_⟩ | refine ⟨rfl, [.bool _], rfl, ?_⟩ | refine ⟨rfl, [.string _], rfl, ?_⟩ | refine ⟨rfl, _, rfl, ?_⟩); (clear H; intro g1 w1 H); go_frame) | ((with_reducible refine Hp.ld H ?_); refine ⟨rfl, ?_⟩; refine ⟨c_look rfl, ?_⟩; refine ⟨_, _, rfl, ?_⟩; ((repeat ((fail_if_success refine ⟨_, _, _, .z, ?_⟩); refine hs ?_)); refine ⟨_, _, _, .z, ?_⟩); refine ⟨_, rfl, ?_⟩; go_frame) | ((with_reducible refine Hp.lda H ?_); refine ⟨rfl, by kernel_rfl, ?_⟩; refine ⟨_, s_look rfl, ?_⟩; refine ⟨_, rfl, ?_⟩; ((repeat ((fail_if_success refine ⟨_, _, _, .z, ?_⟩); refine hs ?_)); refine ⟨_, _, _, .z, ?_⟩); refine ⟨rfl, ?_⟩; go_frame) | ((with_reducible refine Hp.lds H ?_); refine ⟨rfl, by kernel_rfl, ?_⟩; refine ⟨_, s_look rfl, ?_⟩; refine ⟨_, _, rfl, ?_⟩; ((repeat ((fail_if_success refine ⟨_, _, _, .z, ?_⟩); refine hs ?_)); refine ⟨_, _, _, .z, ?_⟩); refine ⟨opC e.ok e.s0 e.s1 e.s2, rfl, rfl, ?_⟩; go_frame) | ((with_reducible refine Hp.bdl (t := 25) (parts := []) H ?_); refine ⟨rfl, _, b_op0, ?_⟩; go_frame) | ((with_reducible refine wl_eqOpB ?_); refine ⟨rfl, _, _, _, _, _, _, _, _, rfl, rfl, _, ho0, ?_⟩; go_frame) | ((with_reducible refine (rmayOp_b _ _ _ _ _ _ ho h0 h1 h2).mono ?_); rintro _ w1 ⟨rfl, hb⟩; replace H := H.call hb; clear hb)); all_goals (go_ret; refine ⟨ret_bool ?_, H.below⟩; rw [mayB, hn]; simp [*] <;> (first | rfl | (intros; omega) | exact bne_c4 (by omega))))
          · (go_enter Tryd.func68, Tryd.ntmps68; go_wp2_with (first | ((with_reducible refine Hp.box H ?_); (first | refine ⟨rfl, [.pointer _], rfl, ?_⟩ | refine ⟨rfl, [.int _ _], rfl, ?_⟩ | refine ⟨rfl, [.slice _ _ _], rfl, ?_⟩ | refine ⟨rfl, [.bool _], rfl, ?_⟩ | refine ⟨rfl, [.string _], rfl, ?_⟩ | refine ⟨rfl, _, rfl, ?_⟩); (clear H; intro g1 w1 H); go_frame) | ((with_reducible refine Hp.ld H ?_); refine ⟨rfl, ?_⟩; refine ⟨c_look rfl, ?_⟩; refine ⟨_, _, rfl, ?_⟩; ((repeat ((fail_if_success refine ⟨_, _, _, .z, ?_⟩); refine hs ?_)); refine ⟨_, _, _, .z, ?_⟩); refine ⟨_, rfl, ?_⟩; go_frame) | ((with_reducible refine Hp.lda H ?_); refine ⟨rfl, by kernel_rfl, ?_⟩; refine ⟨_, s_look rfl, ?_⟩; refine ⟨_, rfl, ?_⟩; ((repeat ((fail_if_success refine ⟨_, _, _, .z, ?_⟩); refine hs ?_)); refine ⟨_, _, _, .z, ?_⟩); refine ⟨rfl, ?_⟩; go_frame) | ((with_reducible refine Hp.lds H ?_); refine ⟨rfl, by kernel_rfl, ?_⟩; refine ⟨_, s_look rfl, ?_⟩; refine ⟨_, _, rfl, ?_⟩; ((repeat ((fail_if_success refine ⟨_, _, _, .z, ?_⟩); refine hs ?_)); refine ⟨_, _, _, .z, ?_⟩); refine ⟨opC e.ok e.s0 e.s1 e.s2, rfl, rfl, ?_⟩; go_frame) | ((with_reducible refine Hp.bdl (t := 25) (parts := []) H ?_); refine ⟨rfl, _, b_op0, ?_⟩; go_frame) | ((with_reducible refine wl_eqOpB ?_); refine ⟨rfl, _, _, _, _, _, _, _, _, rfl, rfl, _, ho0, ?_⟩; go_frame) | ((with_reducible refine (rmayOp_b _ _ _ _ _ _ ho h0 h1 h2).mono ?_); rintro _ w1 ⟨rfl, hb⟩; replace H := H.call hb; clear hb)); all_goals (go_ret; refine ⟨ret_bool ?_, H.below⟩; rw [mayB, hn]; simp [*] <;> (first | rfl | (intros; omega) | exact bne_c4 (by omega))))
  · have hk2 : (e.k == 2) = false := by rw [beq_iff_eq] at hk; rw [hk]; rfl
    have ho := True.intro
    cases hc : (e.c == 0)
    · have hn : isNoop e = false := by rw [hn0, hc]; simp
      clear hn0
      have ho0 := True.intro
      (go_enter Tryd.func68, Tryd.ntmps68; go_wp2_with (first | ((with_reducible refine Hp.box H ?_); (first | refine ⟨rfl, [.pointer _], rfl, ?_⟩ | refine ⟨rfl, [.int _ _], rfl, ?_⟩ | refine ⟨rfl, [.slice _ _ _], rfl, ?_⟩ | refine ⟨rfl, [.bool _], rfl, ?_⟩ | refine ⟨rfl, [.string _], rfl, ?_⟩ | refine ⟨rfl, _, rfl, ?_⟩); (clear H; intro g1 w1 H); go_frame) | ((with_reducible refine Hp.ld H ?_); refine ⟨rfl, ?_⟩; refine ⟨c_look rfl, ?_⟩; refine ⟨_, _, rfl, ?_⟩; ((repeat ((fail_if_success refine ⟨_, _, _, .z, ?_⟩); refine hs ?_)); refine ⟨_, _, _, .z, ?_⟩); refine ⟨_, rfl, ?_⟩; go_frame) | ((with_reducible refine Hp.lda H ?_); refine ⟨rfl, by kernel_rfl, ?_⟩; refine ⟨_, s_look rfl, ?_⟩; refine ⟨_, rfl, ?_⟩; ((repeat ((fail_if_success refine ⟨_, _, _, .z, ?_⟩); refine hs ?_)); refine ⟨_, _, _, .z, ?_⟩); refine ⟨rfl, ?_⟩; go_frame) | ((with_reducible refine Hp.lds H ?_); refine ⟨rfl, by kernel_rfl, ?_⟩; refine ⟨_, s_look rfl, ?_⟩; refine ⟨_, _, rfl, ?_⟩; ((repeat ((fail_if_success refine ⟨_, _, _, .z, ?_⟩); refine hs ?_)); refine ⟨_, _, _, .z, ?_⟩); refine ⟨opC e.ok e.s0 e.s1 e.s2, rfl, rfl, ?_⟩; go_frame) | ((with_reducible refine Hp.bdl (t := 25) (parts := []) H ?_); refine ⟨rfl, _, b_op0, ?_⟩; go_frame) | ((with_reducible refine wl_eqOpB ?_); refine ⟨rfl, _, _, _, _, _, _, _, _, rfl, rfl, _, ho0, ?_⟩; go_frame) | ((with_reducible refine (rmayOp_b _ _ _ _ _ _ ho h0 h1 h2).mono ?_); rintro _ w1 ⟨rfl, hb⟩; replace H := H.call hb; clear hb)); all_goals (go_ret; refine ⟨ret_bool ?_, H.below⟩; rw [mayB, hn]; simp [*] <;> (first | rfl | (intros; omega) | exact bne_c4 (by omega))))
    · cases hs : (e.s == 0)
      · have hn : isNoop e = false := by rw [hn0, hs]; simp
        clear hn0
        have ho0 := True.intro
        (go_enter Tryd.func68, Tryd.ntmps68; go_wp2_with (first | ((with_reducible refine Hp.box H ?_); (first | refine ⟨rfl, [.pointer _], rfl, ?_⟩ | refine ⟨rfl, [.int _ _], rfl, ?_⟩ | refine ⟨rfl, [.slice _ _ _], rfl, ?_⟩ | refine ⟨rfl, [.bool _], rfl, ?_⟩ | refine ⟨rfl, [.string _], rfl, ?_⟩ | refine ⟨rfl, _, rfl, ?_⟩); (clear H; intro g1 w1 H); go_frame) | ((with_reducible refine Hp.ld H ?_); refine ⟨rfl, ?_⟩; refine ⟨c_look rfl, ?_⟩; refine ⟨_, _, rfl, ?_⟩; ((repeat ((fail_if_success refine ⟨_, _, _, .z, ?_⟩); refine hs ?_)); refine ⟨_, _, _, .z, ?_⟩); refine ⟨_, rfl, ?_⟩; go_frame) | ((with_reducible refine Hp.lda H ?_); refine ⟨rfl, by kernel_rfl, ?_⟩; refine ⟨_, s_look rfl, ?_⟩; refine ⟨_, rfl, ?_⟩; ((repeat ((fail_if_success refine ⟨_, _, _, .z, ?_⟩); refine hs ?_)); refine ⟨_, _, _, .z, ?_⟩); refine ⟨rfl, ?_⟩; go_frame) | ((with_reducible refine Hp.lds H ?_); refine ⟨rfl, by kernel_rfl, ?_⟩; refine ⟨_, s_look rfl, ?_⟩; refine ⟨_, _, rfl, ?_⟩; ((repeat ((fail_if_success refine ⟨_, _, _, .z, ?_⟩); refine hs ?_)); refine ⟨_, _, _, .z, ?_⟩); refine ⟨opC e.ok e.s0 e.s1 e.s2, rfl, rfl, ?_⟩; go_frame) | ((with_reducible refine Hp.bdl (t := 25) (parts := []) H ?_); refine ⟨rfl, _, b_op0, ?_⟩; go_frame) | ((with_reducible refine wl_eqOpB ?_); refine ⟨rfl, _, _, _, _, _, _, _, _, rfl, rfl, _, ho0, ?_⟩; go_frame) | ((with_reducible refine (rmayOp_b _ _ _ _ _ _ ho h0 h1 h2).mono ?_); rintro _ w1 ⟨rfl, hb⟩; replace H := H.call hb; clear hb)); all_goals (go_ret; refine ⟨ret_bool ?_, H.below⟩; rw [mayB, hn]; simp [*] <;> (first | rfl | (intros; omega) | exact bne_c4 (by omega))))
      · cases ho0 : opEq e.ok e.s0 e.s1 e.s2 0 .empty .empty .empty
        · have hn : isNoop e = false := by rw [hn0, ho0]; simp
          clear hn0
          (go_enter Tryd.func68, Tryd.ntmps68; go_wp2_with (first | ((with_reducible refine Hp.box H ?_); (first | refine ⟨rfl, [.pointer _], rfl, ?_⟩ | refine ⟨rfl, [.int _ _], rfl, ?_⟩ | refine ⟨rfl, [.slice _ _ _], rfl, ?_⟩ | refine ⟨rfl, [.bool _], rfl, ?_⟩ | refine ⟨rfl, [.string _], rfl, ?_⟩ | refine ⟨rfl, _, rfl, ?_⟩); (clear H; intro g1 w1 H); go_frame) | ((with_reducible refine Hp.ld H ?_); refine ⟨rfl, ?_⟩; refine ⟨c_look rfl, ?_⟩; refine ⟨_, _, rfl, ?_⟩; ((repeat ((fail_if_success refine ⟨_, _, _, .z, ?_⟩); refine hs ?_)); refine ⟨_, _, _, .z, ?_⟩); refine ⟨_, rfl, ?_⟩; go_frame) | ((with_reducible refine Hp.lda H ?_); refine ⟨rfl, by kernel_rfl, ?_⟩; refine ⟨_, s_look rfl, ?_⟩; refine ⟨_, rfl, ?_⟩; ((repeat ((fail_if_success refine ⟨_, _, _, .z, ?_⟩); refine hs ?_)); refine ⟨_, _, _, .z, ?_⟩); refine ⟨rfl, ?_⟩; go_frame) | ((with_reducible refine Hp.lds H ?_); refine ⟨rfl, by kernel_rfl, ?_⟩; refine ⟨_, s_look rfl, ?_⟩; refine ⟨_, _, rfl, ?_⟩; ((repeat ((fail_if_success refine ⟨_, _, _, .z, ?_⟩); refine hs ?_)); refine ⟨_, _, _, .z, ?_⟩); refine ⟨opC e.ok e.s0 e.s1 e.s2, rfl, rfl, ?_⟩; go_frame) | ((with_reducible refine Hp.bdl (t := 25) (parts := []) H ?_); refine ⟨rfl, _, b_op0, ?_⟩; go_frame) | ((with_reducible refine wl_eqOpB ?_); refine ⟨rfl, _, _, _, _, _, _, _, _, rfl, rfl, _, ho0, ?_⟩; go_frame) | ((with_reducible refine (rmayOp_b _ _ _ _ _ _ ho h0 h1 h2).mono ?_); rintro _ w1 ⟨rfl, hb⟩; replace H := H.call hb; clear hb)); all_goals (go_ret; refine ⟨ret_bool ?_, H.below⟩; rw [mayB, hn]; simp [*] <;> (first | rfl | (intros; omega) | exact bne_c4 (by omega))))
        · have hn : isNoop e = true := by rw [hn0, hk, hc, hs, ho0]; rfl
          clear hn0
          (go_enter Tryd.func68, Tryd.ntmps68; go_wp2_with (first | ((with_reducible refine Hp.box H ?_); (first | refine ⟨rfl, [.pointer _], rfl, ?_⟩ | refine ⟨rfl, [.int _ _], rfl, ?_⟩ | refine ⟨rfl, [.slice _ _ _], rfl, ?_⟩ | refine ⟨rfl, [.bool _], rfl, ?_⟩ | refine ⟨rfl, [.string _], rfl, ?_⟩ | refine ⟨rfl, _, rfl, ?_⟩); (clear H; intro g1 w1 H); go_frame) | ((with_reducible refine Hp.ld H ?_); refine ⟨rfl, ?_⟩; refine ⟨c_look rfl, ?_⟩; refine ⟨_, _, rfl, ?_⟩; ((repeat ((fail_if_success refine ⟨_, _, _, .z, ?_⟩); refine hs ?_)); refine ⟨_, _, _, .z, ?_⟩); refine ⟨_, rfl, ?_⟩; go_frame) | ((with_reducible refine Hp.lda H ?_); refine ⟨rfl, by kernel_rfl, ?_⟩; refine ⟨_, s_look rfl, ?_⟩; refine ⟨_, rfl, ?_⟩; ((repeat ((fail_if_success refine ⟨_, _, _, .z, ?_⟩); refine hs ?_)); refine ⟨_, _, _, .z, ?_⟩); refine ⟨rfl, ?_⟩; go_frame) | ((with_reducible refine Hp.lds H ?_); refine ⟨rfl, by kernel_rfl, ?_⟩; refine ⟨_, s_look rfl, ?_⟩; refine ⟨_, _, rfl, ?_⟩; ((repeat ((fail_if_success refine ⟨_, _, _, .z, ?_⟩); refine hs ?_)); refine ⟨_, _, _, .z, ?_⟩); refine ⟨opC e.ok e.s0 e.s1 e.s2, rfl, rfl, ?_⟩; go_frame) | ((with_reducible refine Hp.bdl (t := 25) (parts := []) H ?_); refine ⟨rfl, _, b_op0, ?_⟩; go_frame) | ((with_reducible refine wl_eqOpB ?_); refine ⟨rfl, _, _, _, _, _, _, _, _, rfl, rfl, _, ho0, ?_⟩; go_frame) | ((with_reducible refine (rmayOp_b _ _ _ _ _ _ ho h0 h1 h2).mono ?_); rintro _ w1 ⟨rfl, hb⟩; replace H := H.call hb; clear hb)); all_goals (go_ret; refine ⟨ret_bool ?_, H.below⟩; rw [mayB, hn]; simp [*] <;> (first | rfl | (intros; omega) | exact bne_c4 (by omega))))
end Go.Proofs.YtiieakndjheknaaDoor
