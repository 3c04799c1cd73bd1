/-
  THE WALK OF sextonref20.right: kinds 6, 8, 9, 10. (Printed by wip/bin/genmsgn.py.)
-/
import Derived.Test.YtiieakndjheknaaDoorMsgNp
namespace Go.Proofs.YtiieakndjheknaaDoor
set_option maxRecDepth 100000
open Go.RowKit
set_option linter.unusedVariables false
set_option linter.unusedSimpArgs false
set_option maxHeartbeats 8000000 in
theorem right_6 (m : Mg) (rs : List Rp) (l : List UInt8) (n : Int) (w : World) (hN : MgN m) (hR : MgR w m rs l) (hk : m.k = 6) : Calls Tryd.prog 56 #[.agg (mgC m).toArray, .int .i64 n] w (RetV w (.bool (rightB m rs n))) := by
  have hB : rightB m rs n = (balM m.br m.bp n && (numB m.ix 1 && (numB m.cm 0 && mayB m.e))) := by
    unfold rightB
    rw [hk]
    show (true && (keepB 98 m rs n && (keepB 105 m rs n && (keepB 99 m rs n && (keepB 101 m rs n && true))))) = _
    rw [show keepB 98 m rs n = balM m.br m.bp n from rfl, show keepB 105 m rs n = numB m.ix 1 from rfl, show keepB 99 m rs n = numB m.cm 0 from rfl, show keepB 101 m rs n = mayB m.e from rfl]
    simp only [Bool.true_and, Bool.and_true]
  have b1 : (m.k == 1) = false := by rw [hk]; rfl
  have b2 : (m.k == 2) = false := by rw [hk]; rfl
  have b3 : (m.k == 3) = false := by rw [hk]; rfl
  have b4 : (m.k == 4) = false := by rw [hk]; rfl
  have b5 : (m.k == 5) = false := by rw [hk]; rfl
  have b6 : (m.k == 6) = true := by rw [hk]; rfl
  have b7 : (m.k == 7) = false := by rw [hk]; rfl
  have b8 : (m.k == 8) = false := by rw [hk]; rfl
  have b9 : (m.k == 9) = false := by rw [hk]; rfl
  have b10 : (m.k == 10) = false := by rw [hk]; rfl
  have b11 : (m.k == 11) = false := by rw [hk]; rfl
  have b12 : (m.k == 12) = false := by rw [hk]; rfl
  have b13 : (m.k == 13) = false := by rw [hk]; rfl
  have b14 : (m.k == 14) = false := by rw [hk]; rfl
  have b15 : (m.k == 15) = false := by rw [hk]; rfl
  clear hk
  rw [hB]
  clear hB
  rcases ch2 (inB m.ck 0 7) (numB m.ix 0) with c0 | ⟨c0, c1⟩ | ⟨c0, c1⟩
  all_goals (first | (have dz := c1; clear dz) | have c1 := True.intro)
  all_goals (rcases ch4 (balM m.br m.bp n) (numB m.ix 1) (numB m.cm 0) (mayB m.e) with d0 | ⟨d0, d1⟩ | ⟨d0, d1, d2⟩ | ⟨d0, d1, d2, d3⟩ | ⟨d0, d1, d2, d3⟩)
  all_goals ((first | (have dz := d1; clear dz) | have d1 := True.intro); (first | (have dz := d2; clear dz) | have d2 := True.intro); (first | (have dz := d3; clear dz) | have d3 := True.intro))
  all_goals
    have H := Hp.nil w; go_enter Tryd.func56, Tryd.ntmps56; (first | simp only [List.append_eq, List.cons_append, List.nil_append] | skip); go_wp2_with (first | ((with_reducible refine Hp.box H ?_); (first | refine ⟨rfl, mgC m, rfl, ?_⟩); (clear H; intro g1 w1 H); go_frame) | ((with_reducible refine Hp.ld H ?_); refine ⟨rfl, ?_⟩; refine ⟨c_look rfl, ?_⟩; refine ⟨_, _, rfl, ?_⟩; ((repeat ((fail_if_success refine ⟨_, _, _, .z, ?_⟩); refine hs ?_)); refine ⟨_, _, _, .z, ?_⟩); refine ⟨_, rfl, ?_⟩; go_frame) | ((with_reducible refine Hp.lda H ?_); refine ⟨rfl, by kernel_rfl, ?_⟩; refine ⟨_, s_look rfl, ?_⟩; refine ⟨_, rfl, ?_⟩; ((repeat ((fail_if_success refine ⟨_, _, _, .z, ?_⟩); refine hs ?_)); refine ⟨_, _, _, .z, ?_⟩); refine ⟨rfl, ?_⟩; go_frame) | ((with_reducible refine Hp.lds H ?_); refine ⟨rfl, by kernel_rfl, ?_⟩; refine ⟨_, s_look rfl, ?_⟩; refine ⟨_, _, rfl, ?_⟩; ((repeat ((fail_if_success refine ⟨_, _, _, .z, ?_⟩); refine hs ?_)); refine ⟨_, _, _, .z, ?_⟩); (first | refine ⟨baC m.br m.bp, rfl, rfl, ?_⟩ | refine ⟨enC m.e, rfl, rfl, ?_⟩); go_frame) | ((first | (with_reducible refine (rin_v c0 _).mono ?_) | (with_reducible refine (rin_v d0 _).mono ?_) | (with_reducible refine (rin_v d1 _).mono ?_)); rintro _ w1 ⟨rfl, hb⟩; replace H := H.call hb; clear hb) | ((first | (with_reducible refine (rwhole_v c1 _).mono ?_) | (with_reducible refine (rwhole_v d0 _).mono ?_) | (with_reducible refine (rwhole_v d1 _).mono ?_) | (with_reducible refine (rwhole_v d2 _).mono ?_)); rintro _ w1 ⟨rfl, hb⟩; replace H := H.call hb; clear hb) | ((with_reducible refine (rgood_v d0 _).mono ?_); rintro _ w1 ⟨rfl, hb⟩; replace H := H.call hb; clear hb) | ((first | (with_reducible refine (rmaye_v d2 hN.sm2 _).mono ?_) | (with_reducible refine (rmaye_v d3 hN.sm2 _).mono ?_)); rintro _ w1 ⟨rfl, hb⟩; replace H := H.call hb; clear hb) | ((with_reducible refine (rmayreps_v d3 hR.n1 (hR.rr.below H.below) hR.ok hR.le hR.mx).mono ?_); rintro _ w1 ⟨rfl, hb⟩; replace H := H.call hb; clear hb)); go_ret; exact ⟨ret_bool (by simp [*]), H.below⟩
set_option maxHeartbeats 8000000 in
theorem right_8 (m : Mg) (rs : List Rp) (l : List UInt8) (n : Int) (w : World) (hN : MgN m) (hR : MgR w m rs l) (hk : m.k = 8) : Calls Tryd.prog 56 #[.agg (mgC m).toArray, .int .i64 n] w (RetV w (.bool (rightB m rs n))) := by
  have hB : rightB m rs n = (balM m.br m.bp n && (numB m.cm 0 && numB m.nc 0)) := by
    unfold rightB
    rw [hk]
    show (true && (keepB 98 m rs n && (keepB 99 m rs n && (keepB 110 m rs n && true)))) = _
    rw [show keepB 98 m rs n = balM m.br m.bp n from rfl, show keepB 99 m rs n = numB m.cm 0 from rfl, show keepB 110 m rs n = numB m.nc 0 from rfl]
    simp only [Bool.true_and, Bool.and_true]
  have b1 : (m.k == 1) = false := by rw [hk]; rfl
  have b2 : (m.k == 2) = false := by rw [hk]; rfl
  have b3 : (m.k == 3) = false := by rw [hk]; rfl
  have b4 : (m.k == 4) = false := by rw [hk]; rfl
  have b5 : (m.k == 5) = false := by rw [hk]; rfl
  have b6 : (m.k == 6) = false := by rw [hk]; rfl
  have b7 : (m.k == 7) = false := by rw [hk]; rfl
  have b8 : (m.k == 8) = true := by rw [hk]; rfl
  have b9 : (m.k == 9) = false := by rw [hk]; rfl
  have b10 : (m.k == 10) = false := by rw [hk]; rfl
  have b11 : (m.k == 11) = false := by rw [hk]; rfl
  have b12 : (m.k == 12) = false := by rw [hk]; rfl
  have b13 : (m.k == 13) = false := by rw [hk]; rfl
  have b14 : (m.k == 14) = false := by rw [hk]; rfl
  have b15 : (m.k == 15) = false := by rw [hk]; rfl
  clear hk
  rw [hB]
  clear hB
  rcases ch2 (inB m.ck 0 7) (numB m.ix 0) with c0 | ⟨c0, c1⟩ | ⟨c0, c1⟩
  all_goals (first | (have dz := c1; clear dz) | have c1 := True.intro)
  all_goals (rcases ch3 (balM m.br m.bp n) (numB m.cm 0) (numB m.nc 0) with d0 | ⟨d0, d1⟩ | ⟨d0, d1, d2⟩ | ⟨d0, d1, d2⟩)
  all_goals ((first | (have dz := d1; clear dz) | have d1 := True.intro); (first | (have dz := d2; clear dz) | have d2 := True.intro); (first | (have dz := d3; clear dz) | have d3 := True.intro))
  all_goals
    have H := Hp.nil w; go_enter Tryd.func56, Tryd.ntmps56; (first | simp only [List.append_eq, List.cons_append, List.nil_append] | skip); go_wp2_with (first | ((with_reducible refine Hp.box H ?_); (first | refine ⟨rfl, mgC m, rfl, ?_⟩); (clear H; intro g1 w1 H); go_frame) | ((with_reducible refine Hp.ld H ?_); refine ⟨rfl, ?_⟩; refine ⟨c_look rfl, ?_⟩; refine ⟨_, _, rfl, ?_⟩; ((repeat ((fail_if_success refine ⟨_, _, _, .z, ?_⟩); refine hs ?_)); refine ⟨_, _, _, .z, ?_⟩); refine ⟨_, rfl, ?_⟩; go_frame) | ((with_reducible refine Hp.lda H ?_); refine ⟨rfl, by kernel_rfl, ?_⟩; refine ⟨_, s_look rfl, ?_⟩; refine ⟨_, rfl, ?_⟩; ((repeat ((fail_if_success refine ⟨_, _, _, .z, ?_⟩); refine hs ?_)); refine ⟨_, _, _, .z, ?_⟩); refine ⟨rfl, ?_⟩; go_frame) | ((with_reducible refine Hp.lds H ?_); refine ⟨rfl, by kernel_rfl, ?_⟩; refine ⟨_, s_look rfl, ?_⟩; refine ⟨_, _, rfl, ?_⟩; ((repeat ((fail_if_success refine ⟨_, _, _, .z, ?_⟩); refine hs ?_)); refine ⟨_, _, _, .z, ?_⟩); (first | refine ⟨baC m.br m.bp, rfl, rfl, ?_⟩ | refine ⟨enC m.e, rfl, rfl, ?_⟩); go_frame) | ((first | (with_reducible refine (rin_v c0 _).mono ?_) | (with_reducible refine (rin_v d0 _).mono ?_) | (with_reducible refine (rin_v d1 _).mono ?_)); rintro _ w1 ⟨rfl, hb⟩; replace H := H.call hb; clear hb) | ((first | (with_reducible refine (rwhole_v c1 _).mono ?_) | (with_reducible refine (rwhole_v d0 _).mono ?_) | (with_reducible refine (rwhole_v d1 _).mono ?_) | (with_reducible refine (rwhole_v d2 _).mono ?_)); rintro _ w1 ⟨rfl, hb⟩; replace H := H.call hb; clear hb) | ((with_reducible refine (rgood_v d0 _).mono ?_); rintro _ w1 ⟨rfl, hb⟩; replace H := H.call hb; clear hb) | ((first | (with_reducible refine (rmaye_v d2 hN.sm2 _).mono ?_) | (with_reducible refine (rmaye_v d3 hN.sm2 _).mono ?_)); rintro _ w1 ⟨rfl, hb⟩; replace H := H.call hb; clear hb) | ((with_reducible refine (rmayreps_v d3 hR.n1 (hR.rr.below H.below) hR.ok hR.le hR.mx).mono ?_); rintro _ w1 ⟨rfl, hb⟩; replace H := H.call hb; clear hb)); go_ret; exact ⟨ret_bool (by simp [*]), H.below⟩
set_option maxHeartbeats 8000000 in
theorem right_9 (m : Mg) (rs : List Rp) (l : List UInt8) (n : Int) (w : World) (hN : MgN m) (hR : MgR w m rs l) (hk : m.k = 9) : Calls Tryd.prog 56 #[.agg (mgC m).toArray, .int .i64 n] w (RetV w (.bool (rightB m rs n))) := by
  have hB : rightB m rs n = (balM m.br m.bp n && numB m.nc 0) := by
    unfold rightB
    rw [hk]
    show (true && (keepB 98 m rs n && (keepB 110 m rs n && true))) = _
    rw [show keepB 98 m rs n = balM m.br m.bp n from rfl, show keepB 110 m rs n = numB m.nc 0 from rfl]
    simp only [Bool.true_and, Bool.and_true]
  have b1 : (m.k == 1) = false := by rw [hk]; rfl
  have b2 : (m.k == 2) = false := by rw [hk]; rfl
  have b3 : (m.k == 3) = false := by rw [hk]; rfl
  have b4 : (m.k == 4) = false := by rw [hk]; rfl
  have b5 : (m.k == 5) = false := by rw [hk]; rfl
  have b6 : (m.k == 6) = false := by rw [hk]; rfl
  have b7 : (m.k == 7) = false := by rw [hk]; rfl
  have b8 : (m.k == 8) = false := by rw [hk]; rfl
  have b9 : (m.k == 9) = true := by rw [hk]; rfl
  have b10 : (m.k == 10) = false := by rw [hk]; rfl
  have b11 : (m.k == 11) = false := by rw [hk]; rfl
  have b12 : (m.k == 12) = false := by rw [hk]; rfl
  have b13 : (m.k == 13) = false := by rw [hk]; rfl
  have b14 : (m.k == 14) = false := by rw [hk]; rfl
  have b15 : (m.k == 15) = false := by rw [hk]; rfl
  clear hk
  rw [hB]
  clear hB
  rcases ch2 (inB m.ck 0 7) (numB m.ix 0) with c0 | ⟨c0, c1⟩ | ⟨c0, c1⟩
  all_goals (first | (have dz := c1; clear dz) | have c1 := True.intro)
  all_goals (rcases ch2 (balM m.br m.bp n) (numB m.nc 0) with d0 | ⟨d0, d1⟩ | ⟨d0, d1⟩)
  all_goals ((first | (have dz := d1; clear dz) | have d1 := True.intro); (first | (have dz := d2; clear dz) | have d2 := True.intro); (first | (have dz := d3; clear dz) | have d3 := True.intro))
  all_goals
    have H := Hp.nil w; go_enter Tryd.func56, Tryd.ntmps56; (first | simp only [List.append_eq, List.cons_append, List.nil_append] | skip); go_wp2_with (first | ((with_reducible refine Hp.box H ?_); (first | refine ⟨rfl, mgC m, rfl, ?_⟩); (clear H; intro g1 w1 H); go_frame) | ((with_reducible refine Hp.ld H ?_); refine ⟨rfl, ?_⟩; refine ⟨c_look rfl, ?_⟩; refine ⟨_, _, rfl, ?_⟩; ((repeat ((fail_if_success refine ⟨_, _, _, .z, ?_⟩); refine hs ?_)); refine ⟨_, _, _, .z, ?_⟩); refine ⟨_, rfl, ?_⟩; go_frame) | ((with_reducible refine Hp.lda H ?_); refine ⟨rfl, by kernel_rfl, ?_⟩; refine ⟨_, s_look rfl, ?_⟩; refine ⟨_, rfl, ?_⟩; ((repeat ((fail_if_success refine ⟨_, _, _, .z, ?_⟩); refine hs ?_)); refine ⟨_, _, _, .z, ?_⟩); refine ⟨rfl, ?_⟩; go_frame) | ((with_reducible refine Hp.lds H ?_); refine ⟨rfl, by kernel_rfl, ?_⟩; refine ⟨_, s_look rfl, ?_⟩; refine ⟨_, _, rfl, ?_⟩; ((repeat ((fail_if_success refine ⟨_, _, _, .z, ?_⟩); refine hs ?_)); refine ⟨_, _, _, .z, ?_⟩); (first | refine ⟨baC m.br m.bp, rfl, rfl, ?_⟩ | refine ⟨enC m.e, rfl, rfl, ?_⟩); go_frame) | ((first | (with_reducible refine (rin_v c0 _).mono ?_) | (with_reducible refine (rin_v d0 _).mono ?_) | (with_reducible refine (rin_v d1 _).mono ?_)); rintro _ w1 ⟨rfl, hb⟩; replace H := H.call hb; clear hb) | ((first | (with_reducible refine (rwhole_v c1 _).mono ?_) | (with_reducible refine (rwhole_v d0 _).mono ?_) | (with_reducible refine (rwhole_v d1 _).mono ?_) | (with_reducible refine (rwhole_v d2 _).mono ?_)); rintro _ w1 ⟨rfl, hb⟩; replace H := H.call hb; clear hb) | ((with_reducible refine (rgood_v d0 _).mono ?_); rintro _ w1 ⟨rfl, hb⟩; replace H := H.call hb; clear hb) | ((first | (with_reducible refine (rmaye_v d2 hN.sm2 _).mono ?_) | (with_reducible refine (rmaye_v d3 hN.sm2 _).mono ?_)); rintro _ w1 ⟨rfl, hb⟩; replace H := H.call hb; clear hb) | ((with_reducible refine (rmayreps_v d3 hR.n1 (hR.rr.below H.below) hR.ok hR.le hR.mx).mono ?_); rintro _ w1 ⟨rfl, hb⟩; replace H := H.call hb; clear hb)); go_ret; exact ⟨ret_bool (by simp [*]), H.below⟩
set_option maxHeartbeats 8000000 in
theorem right_10 (m : Mg) (rs : List Rp) (l : List UInt8) (n : Int) (w : World) (hN : MgN m) (hR : MgR w m rs l) (hk : m.k = 10) : Calls Tryd.prog 56 #[.agg (mgC m).toArray, .int .i64 n] w (RetV w (.bool (rightB m rs n))) := by
  have hB : rightB m rs n = numB m.ix 1 := by
    unfold rightB
    rw [hk]
    show (true && (keepB 105 m rs n && true)) = _
    rw [show keepB 105 m rs n = numB m.ix 1 from rfl]
    simp only [Bool.true_and, Bool.and_true]
  have b1 : (m.k == 1) = false := by rw [hk]; rfl
  have b2 : (m.k == 2) = false := by rw [hk]; rfl
  have b3 : (m.k == 3) = false := by rw [hk]; rfl
  have b4 : (m.k == 4) = false := by rw [hk]; rfl
  have b5 : (m.k == 5) = false := by rw [hk]; rfl
  have b6 : (m.k == 6) = false := by rw [hk]; rfl
  have b7 : (m.k == 7) = false := by rw [hk]; rfl
  have b8 : (m.k == 8) = false := by rw [hk]; rfl
  have b9 : (m.k == 9) = false := by rw [hk]; rfl
  have b10 : (m.k == 10) = true := by rw [hk]; rfl
  have b11 : (m.k == 11) = false := by rw [hk]; rfl
  have b12 : (m.k == 12) = false := by rw [hk]; rfl
  have b13 : (m.k == 13) = false := by rw [hk]; rfl
  have b14 : (m.k == 14) = false := by rw [hk]; rfl
  have b15 : (m.k == 15) = false := by rw [hk]; rfl
  clear hk
  rw [hB]
  clear hB
  rcases ch2 (inB m.ck 0 7) (numB m.ix 0) with c0 | ⟨c0, c1⟩ | ⟨c0, c1⟩
  all_goals (first | (have dz := c1; clear dz) | have c1 := True.intro)
  all_goals (cases d0 : numB m.ix 1)
  all_goals (have d1 := True.intro; have d2 := True.intro; have d3 := True.intro)
  all_goals
    have H := Hp.nil w; go_enter Tryd.func56, Tryd.ntmps56; (first | simp only [List.append_eq, List.cons_append, List.nil_append] | skip); go_wp2_with (first | ((with_reducible refine Hp.box H ?_); (first | refine ⟨rfl, mgC m, rfl, ?_⟩); (clear H; intro g1 w1 H); go_frame) | ((with_reducible refine Hp.ld H ?_); refine ⟨rfl, ?_⟩; refine ⟨c_look rfl, ?_⟩; refine ⟨_, _, rfl, ?_⟩; ((repeat ((fail_if_success refine ⟨_, _, _, .z, ?_⟩); refine hs ?_)); refine ⟨_, _, _, .z, ?_⟩); refine ⟨_, rfl, ?_⟩; go_frame) | ((with_reducible refine Hp.lda H ?_); refine ⟨rfl, by kernel_rfl, ?_⟩; refine ⟨_, s_look rfl, ?_⟩; refine ⟨_, rfl, ?_⟩; ((repeat ((fail_if_success refine ⟨_, _, _, .z, ?_⟩); refine hs ?_)); refine ⟨_, _, _, .z, ?_⟩); refine ⟨rfl, ?_⟩; go_frame) | ((with_reducible refine Hp.lds H ?_); refine ⟨rfl, by kernel_rfl, ?_⟩; refine ⟨_, s_look rfl, ?_⟩; refine ⟨_, _, rfl, ?_⟩; ((repeat ((fail_if_success refine ⟨_, _, _, .z, ?_⟩); refine hs ?_)); refine ⟨_, _, _, .z, ?_⟩); (first | refine ⟨baC m.br m.bp, rfl, rfl, ?_⟩ | refine ⟨enC m.e, rfl, rfl, ?_⟩); go_frame) | ((first | (with_reducible refine (rin_v c0 _).mono ?_) | (with_reducible refine (rin_v d0 _).mono ?_) | (with_reducible refine (rin_v d1 _).mono ?_)); rintro _ w1 ⟨rfl, hb⟩; replace H := H.call hb; clear hb) | ((first | (with_reducible refine (rwhole_v c1 _).mono ?_) | (with_reducible refine (rwhole_v d0 _).mono ?_) | (with_reducible refine (rwhole_v d1 _).mono ?_) | (with_reducible refine (rwhole_v d2 _).mono ?_)); rintro _ w1 ⟨rfl, hb⟩; replace H := H.call hb; clear hb) | ((with_reducible refine (rgood_v d0 _).mono ?_); rintro _ w1 ⟨rfl, hb⟩; replace H := H.call hb; clear hb) | ((first | (with_reducible refine (rmaye_v d2 hN.sm2 _).mono ?_) | (with_reducible refine (rmaye_v d3 hN.sm2 _).mono ?_)); rintro _ w1 ⟨rfl, hb⟩; replace H := H.call hb; clear hb) | ((with_reducible refine (rmayreps_v d3 hR.n1 (hR.rr.below H.below) hR.ok hR.le hR.mx).mono ?_); rintro _ w1 ⟨rfl, hb⟩; replace H := H.call hb; clear hb)); go_ret; exact ⟨ret_bool (by simp [*]), H.below⟩
end Go.Proofs.YtiieakndjheknaaDoor
