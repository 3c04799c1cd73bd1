/-
  THE WALK OF sextonref20.right: kinds 14, 11, 12, 15, 13, 0. (Printed by wip/bin/genmsgn.py.)
-/
import Derived.Test.YtiieakndjheknaaDoorMsgNp
namespace Go.Proofs.YtiieakndjheknaaDoor
set_option maxRecDepth 100000
open Go.RowKit
set_option linter.unusedVariables false
set_option linter.unusedSimpArgs false
set_option maxHeartbeats 8000000 in
theorem right_14 (m : Mg) (rs : List Rp) (l : List UInt8) (n : Int) (w : World) (hN : MgN m) (hR : MgR w m rs l) (hk : m.k = 14) : Calls Tryd.prog 56 #[.agg (mgC m).toArray, .int .i64 n] w (RetV w (.bool (rightB m rs n))) := by
  have hB : rightB m rs n = numB m.ix 1 := by
    unfold rightB
    rw [hk]
    show (true && (keepB 105 m rs n && true)) = _
    rw [show keepB 105 m rs n = numB m.ix 1 from rfl]
    simp only [Bool.true_and, Bool.and_true]
  have b1 : (m.k == 1) = false := by rw [hk]; rfl
  have b2 : (m.k == 2) = false := by rw [hk]; rfl
  have b3 : (m.k == 3) = false := by rw [hk]; rfl
  have b4 : (m.k == 4) = false := by rw [hk]; rfl
  have b5 : (m.k == 5) = false := by rw [hk]; rfl
  have b6 : (m.k == 6) = false := by rw [hk]; rfl
  have b7 : (m.k == 7) = false := by rw [hk]; rfl
  have b8 : (m.k == 8) = false := by rw [hk]; rfl
  have b9 : (m.k == 9) = false := by rw [hk]; rfl
  have b10 : (m.k == 10) = false := by rw [hk]; rfl
  have b11 : (m.k == 11) = false := by rw [hk]; rfl
  have b12 : (m.k == 12) = false := by rw [hk]; rfl
  have b13 : (m.k == 13) = false := by rw [hk]; rfl
  have b14 : (m.k == 14) = true := by rw [hk]; rfl
  have b15 : (m.k == 15) = false := by rw [hk]; rfl
  clear hk
  rw [hB]
  clear hB
  rcases ch2 (inB m.ck 0 7) (numB m.ix 0) with c0 | ⟨c0, c1⟩ | ⟨c0, c1⟩
  all_goals (first | (have dz := c1; clear dz) | have c1 := True.intro)
  all_goals (cases d0 : numB m.ix 1)
  all_goals (have d1 := True.intro; have d2 := True.intro; have d3 := True.intro)
  all_goals
    have H := Hp.nil w; go_enter Tryd.func56, Tryd.ntmps56; (first | simp only [List.append_eq, List.cons_append, List.nil_append] | skip); go_wp2_with (first | ((with_reducible refine Hp.box H ?_); (first | refine ⟨rfl, mgC m, rfl, ?_⟩); (clear H; intro g1 w1 H); go_frame) | ((with_reducible refine Hp.ld H ?_); refine ⟨rfl, ?_⟩; refine ⟨c_look rfl, ?_⟩; refine ⟨_, _, rfl, ?_⟩; ((repeat ((fail_if_success refine ⟨_, _, _, .z, ?_⟩); refine hs ?_)); refine ⟨_, _, _, .z, ?_⟩); refine ⟨_, rfl, ?_⟩; go_frame) | ((with_reducible refine Hp.lda H ?_); refine ⟨rfl, by kernel_rfl, ?_⟩; refine ⟨_, s_look rfl, ?_⟩; refine ⟨_, rfl, ?_⟩; ((repeat ((fail_if_success refine ⟨_, _, _, .z, ?_⟩); refine hs ?_)); refine ⟨_, _, _, .z, ?_⟩); refine ⟨rfl, ?_⟩; go_frame) | ((with_reducible refine Hp.lds H ?_); refine ⟨rfl, by kernel_rfl, ?_⟩; refine ⟨_, s_look rfl, ?_⟩; refine ⟨_, _, rfl, ?_⟩; ((repeat ((fail_if_success refine ⟨_, _, _, .z, ?_⟩); refine hs ?_)); refine ⟨_, _, _, .z, ?_⟩); (first | refine ⟨baC m.br m.bp, rfl, rfl, ?_⟩ | refine ⟨enC m.e, rfl, rfl, ?_⟩); go_frame) | ((first | (with_reducible refine (rin_v c0 _).mono ?_) | (with_reducible refine (rin_v d0 _).mono ?_) | (with_reducible refine (rin_v d1 _).mono ?_)); rintro _ w1 ⟨rfl, hb⟩; replace H := H.call hb; clear hb) | ((first | (with_reducible refine (rwhole_v c1 _).mono ?_) | (with_reducible refine (rwhole_v d0 _).mono ?_) | (with_reducible refine (rwhole_v d1 _).mono ?_) | (with_reducible refine (rwhole_v d2 _).mono ?_)); rintro _ w1 ⟨rfl, hb⟩; replace H := H.call hb; clear hb) | ((with_reducible refine (rgood_v d0 _).mono ?_); rintro _ w1 ⟨rfl, hb⟩; replace H := H.call hb; clear hb) | ((first | (with_reducible refine (rmaye_v d2 hN.sm2 _).mono ?_) | (with_reducible refine (rmaye_v d3 hN.sm2 _).mono ?_)); rintro _ w1 ⟨rfl, hb⟩; replace H := H.call hb; clear hb) | ((with_reducible refine (rmayreps_v d3 hR.n1 (hR.rr.below H.below) hR.ok hR.le hR.mx).mono ?_); rintro _ w1 ⟨rfl, hb⟩; replace H := H.call hb; clear hb)); go_ret; exact ⟨ret_bool (by simp [*]), H.below⟩
set_option maxHeartbeats 8000000 in
theorem right_11 (m : Mg) (rs : List Rp) (l : List UInt8) (n : Int) (w : World) (hN : MgN m) (hR : MgR w m rs l) (hk : m.k = 11) : Calls Tryd.prog 56 #[.agg (mgC m).toArray, .int .i64 n] w (RetV w (.bool (rightB m rs n))) := by
  have hB : rightB m rs n = (balM m.br m.bp n && (numB m.ix 1 && mayB m.e)) := by
    unfold rightB
    rw [hk]
    show (true && (keepB 98 m rs n && (keepB 105 m rs n && (keepB 101 m rs n && true)))) = _
    rw [show keepB 98 m rs n = balM m.br m.bp n from rfl, show keepB 105 m rs n = numB m.ix 1 from rfl, show keepB 101 m rs n = mayB m.e from rfl]
    simp only [Bool.true_and, Bool.and_true]
  have b1 : (m.k == 1) = false := by rw [hk]; rfl
  have b2 : (m.k == 2) = false := by rw [hk]; rfl
  have b3 : (m.k == 3) = false := by rw [hk]; rfl
  have b4 : (m.k == 4) = false := by rw [hk]; rfl
  have b5 : (m.k == 5) = false := by rw [hk]; rfl
  have b6 : (m.k == 6) = false := by rw [hk]; rfl
  have b7 : (m.k == 7) = false := by rw [hk]; rfl
  have b8 : (m.k == 8) = false := by rw [hk]; rfl
  have b9 : (m.k == 9) = false := by rw [hk]; rfl
  have b10 : (m.k == 10) = false := by rw [hk]; rfl
  have b11 : (m.k == 11) = true := by rw [hk]; rfl
  have b12 : (m.k == 12) = false := by rw [hk]; rfl
  have b13 : (m.k == 13) = false := by rw [hk]; rfl
  have b14 : (m.k == 14) = false := by rw [hk]; rfl
  have b15 : (m.k == 15) = false := by rw [hk]; rfl
  clear hk
  rw [hB]
  clear hB
  rcases ch2 (inB m.ck 0 7) (numB m.ix 0) with c0 | ⟨c0, c1⟩ | ⟨c0, c1⟩
  all_goals (first | (have dz := c1; clear dz) | have c1 := True.intro)
  all_goals (rcases ch3 (balM m.br m.bp n) (numB m.ix 1) (mayB m.e) with d0 | ⟨d0, d1⟩ | ⟨d0, d1, d2⟩ | ⟨d0, d1, d2⟩)
  all_goals ((first | (have dz := d1; clear dz) | have d1 := True.intro); (first | (have dz := d2; clear dz) | have d2 := True.intro); (first | (have dz := d3; clear dz) | have d3 := True.intro))
  all_goals
    have H := Hp.nil w; go_enter Tryd.func56, Tryd.ntmps56; (first | simp only [List.append_eq, List.cons_append, List.nil_append] | skip); go_wp2_with (first | ((with_reducible refine Hp.box H ?_); (first | refine ⟨rfl, mgC m, rfl, ?_⟩); (clear H; intro g1 w1 H); go_frame) | ((with_reducible refine Hp.ld H ?_); refine ⟨rfl, ?_⟩; refine ⟨c_look rfl, ?_⟩; refine ⟨_, _, rfl, ?_⟩; ((repeat ((fail_if_success refine ⟨_, _, _, .z, ?_⟩); refine hs ?_)); refine ⟨_, _, _, .z, ?_⟩); refine ⟨_, rfl, ?_⟩; go_frame) | ((with_reducible refine Hp.lda H ?_); refine ⟨rfl, by kernel_rfl, ?_⟩; refine ⟨_, s_look rfl, ?_⟩; refine ⟨_, rfl, ?_⟩; ((repeat ((fail_if_success refine ⟨_, _, _, .z, ?_⟩); refine hs ?_)); refine ⟨_, _, _, .z, ?_⟩); refine ⟨rfl, ?_⟩; go_frame) | ((with_reducible refine Hp.lds H ?_); refine ⟨rfl, by kernel_rfl, ?_⟩; refine ⟨_, s_look rfl, ?_⟩; refine ⟨_, _, rfl, ?_⟩; ((repeat ((fail_if_success refine ⟨_, _, _, .z, ?_⟩); refine hs ?_)); refine ⟨_, _, _, .z, ?_⟩); (first | refine ⟨baC m.br m.bp, rfl, rfl, ?_⟩ | refine ⟨enC m.e, rfl, rfl, ?_⟩); go_frame) | ((first | (with_reducible refine (rin_v c0 _).mono ?_) | (with_reducible refine (rin_v d0 _).mono ?_) | (with_reducible refine (rin_v d1 _).mono ?_)); rintro _ w1 ⟨rfl, hb⟩; replace H := H.call hb; clear hb) | ((first | (with_reducible refine (rwhole_v c1 _).mono ?_) | (with_reducible refine (rwhole_v d0 _).mono ?_) | (with_reducible refine (rwhole_v d1 _).mono ?_) | (with_reducible refine (rwhole_v d2 _).mono ?_)); rintro _ w1 ⟨rfl, hb⟩; replace H := H.call hb; clear hb) | ((with_reducible refine (rgood_v d0 _).mono ?_); rintro _ w1 ⟨rfl, hb⟩; replace H := H.call hb; clear hb) | ((first | (with_reducible refine (rmaye_v d2 hN.sm2 _).mono ?_) | (with_reducible refine (rmaye_v d3 hN.sm2 _).mono ?_)); rintro _ w1 ⟨rfl, hb⟩; replace H := H.call hb; clear hb) | ((with_reducible refine (rmayreps_v d3 hR.n1 (hR.rr.below H.below) hR.ok hR.le hR.mx).mono ?_); rintro _ w1 ⟨rfl, hb⟩; replace H := H.call hb; clear hb)); go_ret; exact ⟨ret_bool (by simp [*]), H.below⟩
set_option maxHeartbeats 8000000 in
theorem right_12 (m : Mg) (rs : List Rp) (l : List UInt8) (n : Int) (w : World) (hN : MgN m) (hR : MgR w m rs l) (hk : m.k = 12) : Calls Tryd.prog 56 #[.agg (mgC m).toArray, .int .i64 n] w (RetV w (.bool (rightB m rs n))) := by
  have hB : rightB m rs n = (inB m.ck 0 7 && numB m.ix 0) := by
    unfold rightB
    rw [hk]
    show (true && (keepB 122 m rs n && (keepB 107 m rs n && true))) = _
    rw [show keepB 122 m rs n = numB m.ix 0 from rfl, show keepB 107 m rs n = (decide (0 ≤ m.ck) && decide (m.ck < 8)) from rfl]
    rw [in_ck]
    cases numB m.ix 0 <;> simp
  have b1 : (m.k == 1) = false := by rw [hk]; rfl
  have b2 : (m.k == 2) = false := by rw [hk]; rfl
  have b3 : (m.k == 3) = false := by rw [hk]; rfl
  have b4 : (m.k == 4) = false := by rw [hk]; rfl
  have b5 : (m.k == 5) = false := by rw [hk]; rfl
  have b6 : (m.k == 6) = false := by rw [hk]; rfl
  have b7 : (m.k == 7) = false := by rw [hk]; rfl
  have b8 : (m.k == 8) = false := by rw [hk]; rfl
  have b9 : (m.k == 9) = false := by rw [hk]; rfl
  have b10 : (m.k == 10) = false := by rw [hk]; rfl
  have b11 : (m.k == 11) = false := by rw [hk]; rfl
  have b12 : (m.k == 12) = true := by rw [hk]; rfl
  have b13 : (m.k == 13) = false := by rw [hk]; rfl
  have b14 : (m.k == 14) = false := by rw [hk]; rfl
  have b15 : (m.k == 15) = false := by rw [hk]; rfl
  clear hk
  rw [hB]
  clear hB
  rcases ch2 (inB m.ck 0 7) (numB m.ix 0) with c0 | ⟨c0, c1⟩ | ⟨c0, c1⟩
  all_goals (first | (have dz := c1; clear dz) | have c1 := True.intro)
  all_goals (have d0 := True.intro; have d1 := True.intro; have d2 := True.intro; have d3 := True.intro)
  all_goals
    have H := Hp.nil w; go_enter Tryd.func56, Tryd.ntmps56; (first | simp only [List.append_eq, List.cons_append, List.nil_append] | skip); go_wp2_with (first | ((with_reducible refine Hp.box H ?_); (first | refine ⟨rfl, mgC m, rfl, ?_⟩); (clear H; intro g1 w1 H); go_frame) | ((with_reducible refine Hp.ld H ?_); refine ⟨rfl, ?_⟩; refine ⟨c_look rfl, ?_⟩; refine ⟨_, _, rfl, ?_⟩; ((repeat ((fail_if_success refine ⟨_, _, _, .z, ?_⟩); refine hs ?_)); refine ⟨_, _, _, .z, ?_⟩); refine ⟨_, rfl, ?_⟩; go_frame) | ((with_reducible refine Hp.lda H ?_); refine ⟨rfl, by kernel_rfl, ?_⟩; refine ⟨_, s_look rfl, ?_⟩; refine ⟨_, rfl, ?_⟩; ((repeat ((fail_if_success refine ⟨_, _, _, .z, ?_⟩); refine hs ?_)); refine ⟨_, _, _, .z, ?_⟩); refine ⟨rfl, ?_⟩; go_frame) | ((with_reducible refine Hp.lds H ?_); refine ⟨rfl, by kernel_rfl, ?_⟩; refine ⟨_, s_look rfl, ?_⟩; refine ⟨_, _, rfl, ?_⟩; ((repeat ((fail_if_success refine ⟨_, _, _, .z, ?_⟩); refine hs ?_)); refine ⟨_, _, _, .z, ?_⟩); (first | refine ⟨baC m.br m.bp, rfl, rfl, ?_⟩ | refine ⟨enC m.e, rfl, rfl, ?_⟩); go_frame) | ((first | (with_reducible refine (rin_v c0 _).mono ?_) | (with_reducible refine (rin_v d0 _).mono ?_) | (with_reducible refine (rin_v d1 _).mono ?_)); rintro _ w1 ⟨rfl, hb⟩; replace H := H.call hb; clear hb) | ((first | (with_reducible refine (rwhole_v c1 _).mono ?_) | (with_reducible refine (rwhole_v d0 _).mono ?_) | (with_reducible refine (rwhole_v d1 _).mono ?_) | (with_reducible refine (rwhole_v d2 _).mono ?_)); rintro _ w1 ⟨rfl, hb⟩; replace H := H.call hb; clear hb) | ((with_reducible refine (rgood_v d0 _).mono ?_); rintro _ w1 ⟨rfl, hb⟩; replace H := H.call hb; clear hb) | ((first | (with_reducible refine (rmaye_v d2 hN.sm2 _).mono ?_) | (with_reducible refine (rmaye_v d3 hN.sm2 _).mono ?_)); rintro _ w1 ⟨rfl, hb⟩; replace H := H.call hb; clear hb) | ((with_reducible refine (rmayreps_v d3 hR.n1 (hR.rr.below H.below) hR.ok hR.le hR.mx).mono ?_); rintro _ w1 ⟨rfl, hb⟩; replace H := H.call hb; clear hb)); go_ret; exact ⟨ret_bool (by simp [*]), H.below⟩
set_option maxHeartbeats 8000000 in
theorem right_15 (m : Mg) (rs : List Rp) (l : List UInt8) (n : Int) (w : World) (hN : MgN m) (hR : MgR w m rs l) (hk : m.k = 15) : Calls Tryd.prog 56 #[.agg (mgC m).toArray, .int .i64 n] w (RetV w (.bool (rightB m rs n))) := by
  have hB : rightB m rs n = (inB m.ck 0 7 && numB m.ix 0) := by
    unfold rightB
    rw [hk]
    show (true && (keepB 122 m rs n && (keepB 107 m rs n && true))) = _
    rw [show keepB 122 m rs n = numB m.ix 0 from rfl, show keepB 107 m rs n = (decide (0 ≤ m.ck) && decide (m.ck < 8)) from rfl]
    rw [in_ck]
    cases numB m.ix 0 <;> simp
  have b1 : (m.k == 1) = false := by rw [hk]; rfl
  have b2 : (m.k == 2) = false := by rw [hk]; rfl
  have b3 : (m.k == 3) = false := by rw [hk]; rfl
  have b4 : (m.k == 4) = false := by rw [hk]; rfl
  have b5 : (m.k == 5) = false := by rw [hk]; rfl
  have b6 : (m.k == 6) = false := by rw [hk]; rfl
  have b7 : (m.k == 7) = false := by rw [hk]; rfl
  have b8 : (m.k == 8) = false := by rw [hk]; rfl
  have b9 : (m.k == 9) = false := by rw [hk]; rfl
  have b10 : (m.k == 10) = false := by rw [hk]; rfl
  have b11 : (m.k == 11) = false := by rw [hk]; rfl
  have b12 : (m.k == 12) = false := by rw [hk]; rfl
  have b13 : (m.k == 13) = false := by rw [hk]; rfl
  have b14 : (m.k == 14) = false := by rw [hk]; rfl
  have b15 : (m.k == 15) = true := by rw [hk]; rfl
  clear hk
  rw [hB]
  clear hB
  rcases ch2 (inB m.ck 0 7) (numB m.ix 0) with c0 | ⟨c0, c1⟩ | ⟨c0, c1⟩
  all_goals (first | (have dz := c1; clear dz) | have c1 := True.intro)
  all_goals (have d0 := True.intro; have d1 := True.intro; have d2 := True.intro; have d3 := True.intro)
  all_goals
    have H := Hp.nil w; go_enter Tryd.func56, Tryd.ntmps56; (first | simp only [List.append_eq, List.cons_append, List.nil_append] | skip); go_wp2_with (first | ((with_reducible refine Hp.box H ?_); (first | refine ⟨rfl, mgC m, rfl, ?_⟩); (clear H; intro g1 w1 H); go_frame) | ((with_reducible refine Hp.ld H ?_); refine ⟨rfl, ?_⟩; refine ⟨c_look rfl, ?_⟩; refine ⟨_, _, rfl, ?_⟩; ((repeat ((fail_if_success refine ⟨_, _, _, .z, ?_⟩); refine hs ?_)); refine ⟨_, _, _, .z, ?_⟩); refine ⟨_, rfl, ?_⟩; go_frame) | ((with_reducible refine Hp.lda H ?_); refine ⟨rfl, by kernel_rfl, ?_⟩; refine ⟨_, s_look rfl, ?_⟩; refine ⟨_, rfl, ?_⟩; ((repeat ((fail_if_success refine ⟨_, _, _, .z, ?_⟩); refine hs ?_)); refine ⟨_, _, _, .z, ?_⟩); refine ⟨rfl, ?_⟩; go_frame) | ((with_reducible refine Hp.lds H ?_); refine ⟨rfl, by kernel_rfl, ?_⟩; refine ⟨_, s_look rfl, ?_⟩; refine ⟨_, _, rfl, ?_⟩; ((repeat ((fail_if_success refine ⟨_, _, _, .z, ?_⟩); refine hs ?_)); refine ⟨_, _, _, .z, ?_⟩); (first | refine ⟨baC m.br m.bp, rfl, rfl, ?_⟩ | refine ⟨enC m.e, rfl, rfl, ?_⟩); go_frame) | ((first | (with_reducible refine (rin_v c0 _).mono ?_) | (with_reducible refine (rin_v d0 _).mono ?_) | (with_reducible refine (rin_v d1 _).mono ?_)); rintro _ w1 ⟨rfl, hb⟩; replace H := H.call hb; clear hb) | ((first | (with_reducible refine (rwhole_v c1 _).mono ?_) | (with_reducible refine (rwhole_v d0 _).mono ?_) | (with_reducible refine (rwhole_v d1 _).mono ?_) | (with_reducible refine (rwhole_v d2 _).mono ?_)); rintro _ w1 ⟨rfl, hb⟩; replace H := H.call hb; clear hb) | ((with_reducible refine (rgood_v d0 _).mono ?_); rintro _ w1 ⟨rfl, hb⟩; replace H := H.call hb; clear hb) | ((first | (with_reducible refine (rmaye_v d2 hN.sm2 _).mono ?_) | (with_reducible refine (rmaye_v d3 hN.sm2 _).mono ?_)); rintro _ w1 ⟨rfl, hb⟩; replace H := H.call hb; clear hb) | ((with_reducible refine (rmayreps_v d3 hR.n1 (hR.rr.below H.below) hR.ok hR.le hR.mx).mono ?_); rintro _ w1 ⟨rfl, hb⟩; replace H := H.call hb; clear hb)); go_ret; exact ⟨ret_bool (by simp [*]), H.below⟩
set_option maxHeartbeats 8000000 in
theorem right_13 (m : Mg) (rs : List Rp) (l : List UInt8) (n : Int) (w : World) (hN : MgN m) (hR : MgR w m rs l) (hk : m.k = 13) : Calls Tryd.prog 56 #[.agg (mgC m).toArray, .int .i64 n] w (RetV w (.bool (rightB m rs n))) := by
  have hB : rightB m rs n = ((inB m.ck 0 7 && numB m.ix 0) && (inB m.ct (m.ck + 1) 8 && inB (m.yn : Int) 1 80)) := by
    unfold rightB
    rw [hk]
    show (true && (keepB 122 m rs n && (keepB 107 m rs n && (keepB 109 m rs n && (keepB 121 m rs n && true))))) = _
    rw [show keepB 122 m rs n = numB m.ix 0 from rfl, show keepB 107 m rs n = (decide (0 ≤ m.ck) && decide (m.ck < 8)) from rfl, show keepB 109 m rs n = (decide (m.ck < m.ct) && decide (m.ct ≤ 8)) from rfl, show keepB 121 m rs n = (decide (1 ≤ (m.yn : Int)) && decide ((m.yn : Int) ≤ 80)) from rfl]
    rw [in_ck, in_ct, show inB (m.yn : Int) 1 80 = (decide (1 ≤ (m.yn : Int)) && decide ((m.yn : Int) ≤ 80)) from rfl]
    cases numB m.ix 0 <;> simp [Bool.and_assoc]
  have b1 : (m.k == 1) = false := by rw [hk]; rfl
  have b2 : (m.k == 2) = false := by rw [hk]; rfl
  have b3 : (m.k == 3) = false := by rw [hk]; rfl
  have b4 : (m.k == 4) = false := by rw [hk]; rfl
  have b5 : (m.k == 5) = false := by rw [hk]; rfl
  have b6 : (m.k == 6) = false := by rw [hk]; rfl
  have b7 : (m.k == 7) = false := by rw [hk]; rfl
  have b8 : (m.k == 8) = false := by rw [hk]; rfl
  have b9 : (m.k == 9) = false := by rw [hk]; rfl
  have b10 : (m.k == 10) = false := by rw [hk]; rfl
  have b11 : (m.k == 11) = false := by rw [hk]; rfl
  have b12 : (m.k == 12) = false := by rw [hk]; rfl
  have b13 : (m.k == 13) = true := by rw [hk]; rfl
  have b14 : (m.k == 14) = false := by rw [hk]; rfl
  have b15 : (m.k == 15) = false := by rw [hk]; rfl
  clear hk
  rw [hB]
  clear hB
  rcases ch2 (inB m.ck 0 7) (numB m.ix 0) with c0 | ⟨c0, c1⟩ | ⟨c0, c1⟩
  all_goals (first | (have dz := c1; clear dz) | have c1 := True.intro)
  · have d0 := True.intro; have d1 := True.intro; have d2 := True.intro; have d3 := True.intro
    have H := Hp.nil w; go_enter Tryd.func56, Tryd.ntmps56; (first | simp only [List.append_eq, List.cons_append, List.nil_append] | skip); go_wp2_with (first | ((with_reducible refine Hp.box H ?_); (first | refine ⟨rfl, mgC m, rfl, ?_⟩); (clear H; intro g1 w1 H); go_frame) | ((with_reducible refine Hp.ld H ?_); refine ⟨rfl, ?_⟩; refine ⟨c_look rfl, ?_⟩; refine ⟨_, _, rfl, ?_⟩; ((repeat ((fail_if_success refine ⟨_, _, _, .z, ?_⟩); refine hs ?_)); refine ⟨_, _, _, .z, ?_⟩); refine ⟨_, rfl, ?_⟩; go_frame) | ((with_reducible refine Hp.lda H ?_); refine ⟨rfl, by kernel_rfl, ?_⟩; refine ⟨_, s_look rfl, ?_⟩; refine ⟨_, rfl, ?_⟩; ((repeat ((fail_if_success refine ⟨_, _, _, .z, ?_⟩); refine hs ?_)); refine ⟨_, _, _, .z, ?_⟩); refine ⟨rfl, ?_⟩; go_frame) | ((with_reducible refine Hp.lds H ?_); refine ⟨rfl, by kernel_rfl, ?_⟩; refine ⟨_, s_look rfl, ?_⟩; refine ⟨_, _, rfl, ?_⟩; ((repeat ((fail_if_success refine ⟨_, _, _, .z, ?_⟩); refine hs ?_)); refine ⟨_, _, _, .z, ?_⟩); (first | refine ⟨baC m.br m.bp, rfl, rfl, ?_⟩ | refine ⟨enC m.e, rfl, rfl, ?_⟩); go_frame) | ((first | (with_reducible refine (rin_v c0 _).mono ?_) | (with_reducible refine (rin_v d0 _).mono ?_) | (with_reducible refine (rin_v d1 _).mono ?_)); rintro _ w1 ⟨rfl, hb⟩; replace H := H.call hb; clear hb) | ((first | (with_reducible refine (rwhole_v c1 _).mono ?_) | (with_reducible refine (rwhole_v d0 _).mono ?_) | (with_reducible refine (rwhole_v d1 _).mono ?_) | (with_reducible refine (rwhole_v d2 _).mono ?_)); rintro _ w1 ⟨rfl, hb⟩; replace H := H.call hb; clear hb) | ((with_reducible refine (rgood_v d0 _).mono ?_); rintro _ w1 ⟨rfl, hb⟩; replace H := H.call hb; clear hb) | ((first | (with_reducible refine (rmaye_v d2 hN.sm2 _).mono ?_) | (with_reducible refine (rmaye_v d3 hN.sm2 _).mono ?_)); rintro _ w1 ⟨rfl, hb⟩; replace H := H.call hb; clear hb) | ((with_reducible refine (rmayreps_v d3 hR.n1 (hR.rr.below H.below) hR.ok hR.le hR.mx).mono ?_); rintro _ w1 ⟨rfl, hb⟩; replace H := H.call hb; clear hb)); go_ret; exact ⟨ret_bool (by simp [*]), H.below⟩
  · have d0 := True.intro; have d1 := True.intro; have d2 := True.intro; have d3 := True.intro
    have H := Hp.nil w; go_enter Tryd.func56, Tryd.ntmps56; (first | simp only [List.append_eq, List.cons_append, List.nil_append] | skip); go_wp2_with (first | ((with_reducible refine Hp.box H ?_); (first | refine ⟨rfl, mgC m, rfl, ?_⟩); (clear H; intro g1 w1 H); go_frame) | ((with_reducible refine Hp.ld H ?_); refine ⟨rfl, ?_⟩; refine ⟨c_look rfl, ?_⟩; refine ⟨_, _, rfl, ?_⟩; ((repeat ((fail_if_success refine ⟨_, _, _, .z, ?_⟩); refine hs ?_)); refine ⟨_, _, _, .z, ?_⟩); refine ⟨_, rfl, ?_⟩; go_frame) | ((with_reducible refine Hp.lda H ?_); refine ⟨rfl, by kernel_rfl, ?_⟩; refine ⟨_, s_look rfl, ?_⟩; refine ⟨_, rfl, ?_⟩; ((repeat ((fail_if_success refine ⟨_, _, _, .z, ?_⟩); refine hs ?_)); refine ⟨_, _, _, .z, ?_⟩); refine ⟨rfl, ?_⟩; go_frame) | ((with_reducible refine Hp.lds H ?_); refine ⟨rfl, by kernel_rfl, ?_⟩; refine ⟨_, s_look rfl, ?_⟩; refine ⟨_, _, rfl, ?_⟩; ((repeat ((fail_if_success refine ⟨_, _, _, .z, ?_⟩); refine hs ?_)); refine ⟨_, _, _, .z, ?_⟩); (first | refine ⟨baC m.br m.bp, rfl, rfl, ?_⟩ | refine ⟨enC m.e, rfl, rfl, ?_⟩); go_frame) | ((first | (with_reducible refine (rin_v c0 _).mono ?_) | (with_reducible refine (rin_v d0 _).mono ?_) | (with_reducible refine (rin_v d1 _).mono ?_)); rintro _ w1 ⟨rfl, hb⟩; replace H := H.call hb; clear hb) | ((first | (with_reducible refine (rwhole_v c1 _).mono ?_) | (with_reducible refine (rwhole_v d0 _).mono ?_) | (with_reducible refine (rwhole_v d1 _).mono ?_) | (with_reducible refine (rwhole_v d2 _).mono ?_)); rintro _ w1 ⟨rfl, hb⟩; replace H := H.call hb; clear hb) | ((with_reducible refine (rgood_v d0 _).mono ?_); rintro _ w1 ⟨rfl, hb⟩; replace H := H.call hb; clear hb) | ((first | (with_reducible refine (rmaye_v d2 hN.sm2 _).mono ?_) | (with_reducible refine (rmaye_v d3 hN.sm2 _).mono ?_)); rintro _ w1 ⟨rfl, hb⟩; replace H := H.call hb; clear hb) | ((with_reducible refine (rmayreps_v d3 hR.n1 (hR.rr.below H.below) hR.ok hR.le hR.mx).mono ?_); rintro _ w1 ⟨rfl, hb⟩; replace H := H.call hb; clear hb)); go_ret; exact ⟨ret_bool (by simp [*]), H.below⟩
  (have hwr : IntKind.i64.wrap (m.ck + 1) = m.ck + 1 := IntWalk.i64_in _ (by have := inB_true c0; omega))
  all_goals (rcases ch2 (inB m.ct (m.ck + 1) 8) (inB (m.yn : Int) 1 80) with d0 | ⟨d0, d1⟩ | ⟨d0, d1⟩)
  all_goals ((first | (have dz := d1; clear dz) | have d1 := True.intro); (first | (have dz := d2; clear dz) | have d2 := True.intro); (first | (have dz := d3; clear dz) | have d3 := True.intro))
  all_goals
    have H := Hp.nil w; go_enter Tryd.func56, Tryd.ntmps56; (first | simp only [List.append_eq, List.cons_append, List.nil_append] | skip); go_wp2_with (first | ((with_reducible refine Hp.box H ?_); (first | refine ⟨rfl, mgC m, rfl, ?_⟩); (clear H; intro g1 w1 H); go_frame) | ((with_reducible refine Hp.ld H ?_); refine ⟨rfl, ?_⟩; refine ⟨c_look rfl, ?_⟩; refine ⟨_, _, rfl, ?_⟩; ((repeat ((fail_if_success refine ⟨_, _, _, .z, ?_⟩); refine hs ?_)); refine ⟨_, _, _, .z, ?_⟩); refine ⟨_, rfl, ?_⟩; go_frame) | ((with_reducible refine Hp.lda H ?_); refine ⟨rfl, by kernel_rfl, ?_⟩; refine ⟨_, s_look rfl, ?_⟩; refine ⟨_, rfl, ?_⟩; ((repeat ((fail_if_success refine ⟨_, _, _, .z, ?_⟩); refine hs ?_)); refine ⟨_, _, _, .z, ?_⟩); refine ⟨rfl, ?_⟩; go_frame) | ((with_reducible refine Hp.lds H ?_); refine ⟨rfl, by kernel_rfl, ?_⟩; refine ⟨_, s_look rfl, ?_⟩; refine ⟨_, _, rfl, ?_⟩; ((repeat ((fail_if_success refine ⟨_, _, _, .z, ?_⟩); refine hs ?_)); refine ⟨_, _, _, .z, ?_⟩); (first | refine ⟨baC m.br m.bp, rfl, rfl, ?_⟩ | refine ⟨enC m.e, rfl, rfl, ?_⟩); go_frame) | ((first | (with_reducible refine (rin_v c0 _).mono ?_) | (with_reducible refine (rin_v d0 _).mono ?_) | (with_reducible refine (rin_v d1 _).mono ?_)); rintro _ w1 ⟨rfl, hb⟩; replace H := H.call hb; clear hb) | ((first | (with_reducible refine (rwhole_v c1 _).mono ?_) | (with_reducible refine (rwhole_v d0 _).mono ?_) | (with_reducible refine (rwhole_v d1 _).mono ?_) | (with_reducible refine (rwhole_v d2 _).mono ?_)); rintro _ w1 ⟨rfl, hb⟩; replace H := H.call hb; clear hb) | ((with_reducible refine (rgood_v d0 _).mono ?_); rintro _ w1 ⟨rfl, hb⟩; replace H := H.call hb; clear hb) | ((first | (with_reducible refine (rmaye_v d2 hN.sm2 _).mono ?_) | (with_reducible refine (rmaye_v d3 hN.sm2 _).mono ?_)); rintro _ w1 ⟨rfl, hb⟩; replace H := H.call hb; clear hb) | ((with_reducible refine (rmayreps_v d3 hR.n1 (hR.rr.below H.below) hR.ok hR.le hR.mx).mono ?_); rintro _ w1 ⟨rfl, hb⟩; replace H := H.call hb; clear hb)); go_ret; exact ⟨ret_bool (by simp [*]), H.below⟩
set_option maxHeartbeats 8000000 in
theorem right_0 (m : Mg) (rs : List Rp) (l : List UInt8) (n : Int) (w : World) (hN : MgN m) (hR : MgR w m rs l) (hk : kindB m.k = false) : Calls Tryd.prog 56 #[.agg (mgC m).toArray, .int .i64 n] w (RetV w (.bool (rightB m rs n))) := by
  have hB : rightB m rs n = false := by unfold rightB; rw [hk]; rfl
  have b1 : (m.k == 1) = false := beq_eq_false_iff_ne.mpr (fun h => by rw [h] at hk; cases hk)
  have b2 : (m.k == 2) = false := beq_eq_false_iff_ne.mpr (fun h => by rw [h] at hk; cases hk)
  have b3 : (m.k == 3) = false := beq_eq_false_iff_ne.mpr (fun h => by rw [h] at hk; cases hk)
  have b4 : (m.k == 4) = false := beq_eq_false_iff_ne.mpr (fun h => by rw [h] at hk; cases hk)
  have b5 : (m.k == 5) = false := beq_eq_false_iff_ne.mpr (fun h => by rw [h] at hk; cases hk)
  have b6 : (m.k == 6) = false := beq_eq_false_iff_ne.mpr (fun h => by rw [h] at hk; cases hk)
  have b7 : (m.k == 7) = false := beq_eq_false_iff_ne.mpr (fun h => by rw [h] at hk; cases hk)
  have b8 : (m.k == 8) = false := beq_eq_false_iff_ne.mpr (fun h => by rw [h] at hk; cases hk)
  have b9 : (m.k == 9) = false := beq_eq_false_iff_ne.mpr (fun h => by rw [h] at hk; cases hk)
  have b10 : (m.k == 10) = false := beq_eq_false_iff_ne.mpr (fun h => by rw [h] at hk; cases hk)
  have b11 : (m.k == 11) = false := beq_eq_false_iff_ne.mpr (fun h => by rw [h] at hk; cases hk)
  have b12 : (m.k == 12) = false := beq_eq_false_iff_ne.mpr (fun h => by rw [h] at hk; cases hk)
  have b13 : (m.k == 13) = false := beq_eq_false_iff_ne.mpr (fun h => by rw [h] at hk; cases hk)
  have b14 : (m.k == 14) = false := beq_eq_false_iff_ne.mpr (fun h => by rw [h] at hk; cases hk)
  have b15 : (m.k == 15) = false := beq_eq_false_iff_ne.mpr (fun h => by rw [h] at hk; cases hk)
  clear hk
  rw [hB]
  clear hB
  rcases ch2 (inB m.ck 0 7) (numB m.ix 0) with c0 | ⟨c0, c1⟩ | ⟨c0, c1⟩
  all_goals (first | (have dz := c1; clear dz) | have c1 := True.intro)
  all_goals (have d0 := True.intro; have d1 := True.intro; have d2 := True.intro; have d3 := True.intro)
  all_goals
    have H := Hp.nil w; go_enter Tryd.func56, Tryd.ntmps56; (first | simp only [List.append_eq, List.cons_append, List.nil_append] | skip); go_wp2_with (first | ((with_reducible refine Hp.box H ?_); (first | refine ⟨rfl, mgC m, rfl, ?_⟩); (clear H; intro g1 w1 H); go_frame) | ((with_reducible refine Hp.ld H ?_); refine ⟨rfl, ?_⟩; refine ⟨c_look rfl, ?_⟩; refine ⟨_, _, rfl, ?_⟩; ((repeat ((fail_if_success refine ⟨_, _, _, .z, ?_⟩); refine hs ?_)); refine ⟨_, _, _, .z, ?_⟩); refine ⟨_, rfl, ?_⟩; go_frame) | ((with_reducible refine Hp.lda H ?_); refine ⟨rfl, by kernel_rfl, ?_⟩; refine ⟨_, s_look rfl, ?_⟩; refine ⟨_, rfl, ?_⟩; ((repeat ((fail_if_success refine ⟨_, _, _, .z, ?_⟩); refine hs ?_)); refine ⟨_, _, _, .z, ?_⟩); refine ⟨rfl, ?_⟩; go_frame) | ((with_reducible refine Hp.lds H ?_); refine ⟨rfl, by kernel_rfl, ?_⟩; refine ⟨_, s_look rfl, ?_⟩; refine ⟨_, _, rfl, ?_⟩; ((repeat ((fail_if_success refine ⟨_, _, _, .z, ?_⟩); refine hs ?_)); refine ⟨_, _, _, .z, ?_⟩); (first | refine ⟨baC m.br m.bp, rfl, rfl, ?_⟩ | refine ⟨enC m.e, rfl, rfl, ?_⟩); go_frame) | ((first | (with_reducible refine (rin_v c0 _).mono ?_) | (with_reducible refine (rin_v d0 _).mono ?_) | (with_reducible refine (rin_v d1 _).mono ?_)); rintro _ w1 ⟨rfl, hb⟩; replace H := H.call hb; clear hb) | ((first | (with_reducible refine (rwhole_v c1 _).mono ?_) | (with_reducible refine (rwhole_v d0 _).mono ?_) | (with_reducible refine (rwhole_v d1 _).mono ?_) | (with_reducible refine (rwhole_v d2 _).mono ?_)); rintro _ w1 ⟨rfl, hb⟩; replace H := H.call hb; clear hb) | ((with_reducible refine (rgood_v d0 _).mono ?_); rintro _ w1 ⟨rfl, hb⟩; replace H := H.call hb; clear hb) | ((first | (with_reducible refine (rmaye_v d2 hN.sm2 _).mono ?_) | (with_reducible refine (rmaye_v d3 hN.sm2 _).mono ?_)); rintro _ w1 ⟨rfl, hb⟩; replace H := H.call hb; clear hb) | ((with_reducible refine (rmayreps_v d3 hR.n1 (hR.rr.below H.below) hR.ok hR.le hR.mx).mono ?_); rintro _ w1 ⟨rfl, hb⟩; replace H := H.call hb; clear hb)); go_ret; exact ⟨ret_bool (by simp [*]), H.below⟩
end Go.Proofs.YtiieakndjheknaaDoor
