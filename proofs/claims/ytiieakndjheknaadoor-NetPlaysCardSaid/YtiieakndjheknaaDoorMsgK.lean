/-
  THE WALKS OF the reference's in, whole, good, mayReport, mayReports; of chapter 14's May.
-/
import Derived.Test.YtiieakndjheknaaDoorMsgB
import Derived.Test.YtiieakndjheknaaDoorEntS
import Derived.Test.YtiieakndjheknaaDoorPk1
namespace Go.Proofs.YtiieakndjheknaaDoor
set_option maxRecDepth 100000
open Go.RowKit
set_option linter.unusedVariables false
set_option linter.unusedSimpArgs false
set_option maxHeartbeats 400000 in
theorem rin_any (n least most : Int) (w : World) : Calls Tryd.prog 57 #[.int .i64 n, .int .i64 least, .int .i64 most] w (RetV w (.bool (inB n least most))) := by
  cases d0 : decide (least ≤ n)
  all_goals
    cases d1 : decide (n ≤ most)
    all_goals
      have H := Hp.nil w
      go_enter Tryd.func57, Tryd.ntmps57
      go_wp2
      go_ret
      exact ⟨ret_bool (by rw [inB, d0, d1]; rfl), H.below⟩
theorem rin_v {n least most : Int} {b : Bool} (h : inB n least most = b) (w : World) : Calls Tryd.prog 57 #[.int .i64 n, .int .i64 least, .int .i64 most] w (RetV w (.bool b)) := by
  subst h
  exact rin_any n least most w
set_option maxHeartbeats 400000 in
theorem rwhole_any (n least : Int) (w : World) : Calls Tryd.prog 65 #[.int .i64 n, .int .i64 least] w (RetV w (.bool (numB n least))) := by
  have H := Hp.nil w
  go_enter Tryd.func65, Tryd.ntmps65
  go_wp2_with (first | ((with_reducible refine (rin_any _ _ _ _).mono ?_); rintro _ w1 ⟨rfl, hb⟩; replace H := H.call hb; clear hb))
  go_ret
  exact ⟨rfl, H.below⟩
theorem rwhole_v {n least : Int} {b : Bool} (h : numB n least = b) (w : World) : Calls Tryd.prog 65 #[.int .i64 n, .int .i64 least] w (RetV w (.bool b)) := by
  subst h
  exact rwhole_any n least w
set_option maxHeartbeats 400000 in
theorem rcrowd_any (n : Int) (w : World) : Calls Tryd.prog 42 #[.int .i64 n] w (RetV w (.bool (crowdB n))) := by
  cases d0 : (n == 3)
  all_goals
    cases d1 : (n == 5)
    all_goals
      cases d2 : (n == 7)
      all_goals
        have H := Hp.nil w
        go_enter Tryd.func42, Tryd.ntmps42
        go_wp2
        go_ret
        exact ⟨ret_bool (by rw [crowdB, d0, d1, d2]; rfl), H.below⟩
theorem rcrowd_v {n : Int} {b : Bool} (h : crowdB n = b) (w : World) : Calls Tryd.prog 42 #[.int .i64 n] w (RetV w (.bool b)) := by
  subst h
  exact rcrowd_any n w
set_option maxHeartbeats 1000000 in
theorem rbmay_any (r p n : Int) (w : World) : Calls Tryd.prog 70 #[.agg (baC r p).toArray, .int .i64 n] w (RetV w (.bool (bmayB r p n))) := by
  cases hc : crowdB n
  · have H := Hp.nil w
    go_enter Tryd.func70, Tryd.ntmps70; go_wp2_with (first | ((with_reducible refine Hp.box H ?_); (first | refine ⟨rfl, baC r p, rfl, ?_⟩); (clear H; intro g1 w1 H); go_frame) | ((with_reducible refine Hp.ld H ?_); refine ⟨rfl, ?_⟩; refine ⟨c_look rfl, ?_⟩; refine ⟨_, _, rfl, ?_⟩; ((repeat ((fail_if_success refine ⟨_, _, _, .z, ?_⟩); refine hs ?_)); refine ⟨_, _, _, .z, ?_⟩); refine ⟨_, rfl, ?_⟩; go_frame) | ((with_reducible refine (rcrowd_v hc _).mono ?_); rintro _ w1 ⟨rfl, hb⟩; replace H := H.call hb; clear hb)); go_ret
    exact ⟨ret_bool (by unfold bmayB balM; rw [hc]; simp), H.below⟩
  rcases ch2 (r == 0) (p == 0) with z0 | ⟨z0, z1⟩ | ⟨z0, z1⟩
  · rcases ch4 (decide (1 ≤ r)) (decide (r ≤ 1099511627776)) (decide (0 ≤ p)) (decide (p < n)) with d1 | ⟨d1, d2⟩ | ⟨d1, d2, d3⟩ | ⟨d1, d2, d3, d4⟩ | ⟨d1, d2, d3, d4⟩
    all_goals
      have H := Hp.nil w
      go_enter Tryd.func70, Tryd.ntmps70; go_wp2_with (first | ((with_reducible refine Hp.box H ?_); (first | refine ⟨rfl, baC r p, rfl, ?_⟩); (clear H; intro g1 w1 H); go_frame) | ((with_reducible refine Hp.ld H ?_); refine ⟨rfl, ?_⟩; refine ⟨c_look rfl, ?_⟩; refine ⟨_, _, rfl, ?_⟩; ((repeat ((fail_if_success refine ⟨_, _, _, .z, ?_⟩); refine hs ?_)); refine ⟨_, _, _, .z, ?_⟩); refine ⟨_, rfl, ?_⟩; go_frame) | ((with_reducible refine (rcrowd_v hc _).mono ?_); rintro _ w1 ⟨rfl, hb⟩; replace H := H.call hb; clear hb)); go_ret
      exact ⟨ret_bool (by unfold bmayB balM balEq; simp [*]), H.below⟩
  · rcases ch4 (decide (1 ≤ r)) (decide (r ≤ 1099511627776)) (decide (0 ≤ p)) (decide (p < n)) with d1 | ⟨d1, d2⟩ | ⟨d1, d2, d3⟩ | ⟨d1, d2, d3, d4⟩ | ⟨d1, d2, d3, d4⟩
    all_goals
      have H := Hp.nil w
      go_enter Tryd.func70, Tryd.ntmps70; go_wp2_with (first | ((with_reducible refine Hp.box H ?_); (first | refine ⟨rfl, baC r p, rfl, ?_⟩); (clear H; intro g1 w1 H); go_frame) | ((with_reducible refine Hp.ld H ?_); refine ⟨rfl, ?_⟩; refine ⟨c_look rfl, ?_⟩; refine ⟨_, _, rfl, ?_⟩; ((repeat ((fail_if_success refine ⟨_, _, _, .z, ?_⟩); refine hs ?_)); refine ⟨_, _, _, .z, ?_⟩); refine ⟨_, rfl, ?_⟩; go_frame) | ((with_reducible refine (rcrowd_v hc _).mono ?_); rintro _ w1 ⟨rfl, hb⟩; replace H := H.call hb; clear hb)); go_ret
      exact ⟨ret_bool (by unfold bmayB balM balEq; simp [*]), H.below⟩
  · have H := Hp.nil w
    go_enter Tryd.func70, Tryd.ntmps70; go_wp2_with (first | ((with_reducible refine Hp.box H ?_); (first | refine ⟨rfl, baC r p, rfl, ?_⟩); (clear H; intro g1 w1 H); go_frame) | ((with_reducible refine Hp.ld H ?_); refine ⟨rfl, ?_⟩; refine ⟨c_look rfl, ?_⟩; refine ⟨_, _, rfl, ?_⟩; ((repeat ((fail_if_success refine ⟨_, _, _, .z, ?_⟩); refine hs ?_)); refine ⟨_, _, _, .z, ?_⟩); refine ⟨_, rfl, ?_⟩; go_frame) | ((with_reducible refine (rcrowd_v hc _).mono ?_); rintro _ w1 ⟨rfl, hb⟩; replace H := H.call hb; clear hb)); go_ret
    exact ⟨ret_bool (by unfold bmayB balEq; simp [*]), H.below⟩
theorem rbmay_v {r p n : Int} {b : Bool} (h : bmayB r p n = b) (w : World) : Calls Tryd.prog 70 #[.agg (baC r p).toArray, .int .i64 n] w (RetV w (.bool b)) := by
  subst h
  exact rbmay_any r p n w
theorem good_eq (r p n : Int) : (decide (0 < r) && bmayB r p n) = balM r p n := by
  unfold bmayB
  by_cases h : 0 < r
  · have : balEq r p 0 0 = false := by unfold balEq; simp; omega
    rw [this]; simp [h]
  · have : decide (0 < r) = false := decide_eq_false h
    have h1 : decide (1 ≤ r) = false := decide_eq_false (by omega)
    rw [this]; simp [balM, h1]
set_option maxHeartbeats 1000000 in
theorem rgood_any (r p n : Int) (w : World) : Calls Tryd.prog 66 #[.agg (baC r p).toArray, .int .i64 n] w (RetV w (.bool (balM r p n))) := by
  rw [← good_eq]
  rcases ch2 (decide (0 < r)) (bmayB r p n) with hz | ⟨hz, hb⟩ | ⟨hz, hb⟩
  all_goals
    have H := Hp.nil w
    go_enter Tryd.func66, Tryd.ntmps66
    go_wp2_with (first | ((with_reducible refine Hp.box H ?_); (first | refine ⟨rfl, baC r p, rfl, ?_⟩); (clear H; intro g1 w1 H); go_frame) | ((with_reducible refine Hp.ld H ?_); refine ⟨rfl, ?_⟩; refine ⟨c_look rfl, ?_⟩; refine ⟨_, _, rfl, ?_⟩; ((repeat ((fail_if_success refine ⟨_, _, _, .z, ?_⟩); refine hs ?_)); refine ⟨_, _, _, .z, ?_⟩); refine ⟨_, rfl, ?_⟩; go_frame) | ((with_reducible refine Hp.lda H ?_); refine ⟨rfl, by kernel_rfl, ?_⟩; refine ⟨_, s_look rfl, ?_⟩; refine ⟨_, rfl, ?_⟩; ((repeat ((fail_if_success refine ⟨_, _, _, .z, ?_⟩); refine hs ?_)); refine ⟨_, _, _, .z, ?_⟩); refine ⟨rfl, ?_⟩; go_frame) | ((with_reducible refine Hp.lds H ?_); refine ⟨rfl, by kernel_rfl, ?_⟩; refine ⟨_, s_look rfl, ?_⟩; refine ⟨_, _, rfl, ?_⟩; ((repeat ((fail_if_success refine ⟨_, _, _, .z, ?_⟩); refine hs ?_)); refine ⟨_, _, _, .z, ?_⟩); (first | refine ⟨[_, _], rfl, rfl, ?_⟩ | refine ⟨[_, _, _, _], rfl, rfl, ?_⟩ | refine ⟨[_, _, _, _, _, _, _], rfl, rfl, ?_⟩ | refine ⟨[_, _, _], rfl, rfl, ?_⟩ | (fail)); go_frame) | ((with_reducible refine (rbmay_v hb _).mono ?_); rintro _ w1 ⟨rfl, hb⟩; replace H := H.call hb; clear hb))
    go_ret
    exact ⟨ret_bool (by simp [*]), H.below⟩
theorem rgood_v {r p n : Int} {b : Bool} (h : balM r p n = b) (w : World) : Calls Tryd.prog 66 #[.agg (baC r p).toArray, .int .i64 n] w (RetV w (.bool b)) := by
  subst h
  exact rgood_any r p n w
theorem rmaye_v {e : En} {b : Bool} (hb : mayB e = b) (hs : Sm e) (w : World) : Calls Tryd.prog 68 #[.agg (enC e).toArray] w (RetV w (.bool b)) := by
  subst hb
  exact rmay_any e w hs
theorem b_en00 : Tryd.prog.built 27 [] = some (enC en0).toArray := by kernel_rfl
set_option maxHeartbeats 4000000 in
theorem rmayrep_any (ix st r p : Int) (e : En) (be n : Int) (w : World) (hsm : Sm e) :
    Calls Tryd.prog 71 #[.agg (rpC ⟨ix, st, r, p, e⟩).toArray, .int .i64 be, .int .i64 n] w (RetV w (.bool (repB ⟨ix, st, r, p, e⟩ n && decide (be < ix)))) := by
  cases hn : numB ix 1
  · have H := Hp.nil w
    have hg := True.intro
    have hm := True.intro
    have hz := True.intro
    have he := True.intro
    go_enter Tryd.func71, Tryd.ntmps71; go_wp2_with (first | ((with_reducible refine Hp.box H ?_); (first | refine ⟨rfl, rpC ⟨ix, _, r, p, e⟩, rfl, ?_⟩); (clear H; intro g1 w1 H); go_frame) | ((with_reducible refine Hp.ld H ?_); refine ⟨rfl, ?_⟩; refine ⟨c_look rfl, ?_⟩; refine ⟨_, _, rfl, ?_⟩; ((repeat ((fail_if_success refine ⟨_, _, _, .z, ?_⟩); refine hs ?_)); refine ⟨_, _, _, .z, ?_⟩); refine ⟨_, rfl, ?_⟩; go_frame) | ((with_reducible refine Hp.lda H ?_); refine ⟨rfl, by kernel_rfl, ?_⟩; refine ⟨_, s_look rfl, ?_⟩; refine ⟨_, rfl, ?_⟩; ((repeat ((fail_if_success refine ⟨_, _, _, .z, ?_⟩); refine hs ?_)); refine ⟨_, _, _, .z, ?_⟩); refine ⟨rfl, ?_⟩; go_frame) | ((with_reducible refine Hp.lds H ?_); refine ⟨rfl, by kernel_rfl, ?_⟩; refine ⟨_, s_look rfl, ?_⟩; refine ⟨_, _, rfl, ?_⟩; ((repeat ((fail_if_success refine ⟨_, _, _, .z, ?_⟩); refine hs ?_)); refine ⟨_, _, _, .z, ?_⟩); (first | refine ⟨enC e, rfl, rfl, ?_⟩ | refine ⟨baC r p, rfl, rfl, ?_⟩); go_frame) | ((with_reducible refine Hp.bdl H ?_); (fail); go_frame) | ((with_reducible refine (rwhole_v hn _).mono ?_); rintro _ w1 ⟨rfl, hb⟩; replace H := H.call hb; clear hb) | ((with_reducible refine (rgood_v hg _).mono ?_); rintro _ w1 ⟨rfl, hb⟩; replace H := H.call hb; clear hb) | ((with_reducible refine (rmaye_v hm hsm _).mono ?_); rintro _ w1 ⟨rfl, hb⟩; replace H := H.call hb; clear hb))
    go_ret
    exact ⟨ret_bool (by unfold repB; rw [hn]; rfl), H.below⟩
  by_cases hb : be < ix
  rotate_left
  · have d : decide (ix ≤ be) = true := decide_eq_true (by omega)
    have d' : decide (be < ix) = false := decide_eq_false hb
    have H := Hp.nil w
    have hg := True.intro
    have hm := True.intro
    have hz := True.intro
    have he := True.intro
    go_enter Tryd.func71, Tryd.ntmps71; go_wp2_with (first | ((with_reducible refine Hp.box H ?_); (first | refine ⟨rfl, rpC ⟨ix, _, r, p, e⟩, rfl, ?_⟩); (clear H; intro g1 w1 H); go_frame) | ((with_reducible refine Hp.ld H ?_); refine ⟨rfl, ?_⟩; refine ⟨c_look rfl, ?_⟩; refine ⟨_, _, rfl, ?_⟩; ((repeat ((fail_if_success refine ⟨_, _, _, .z, ?_⟩); refine hs ?_)); refine ⟨_, _, _, .z, ?_⟩); refine ⟨_, rfl, ?_⟩; go_frame) | ((with_reducible refine Hp.lda H ?_); refine ⟨rfl, by kernel_rfl, ?_⟩; refine ⟨_, s_look rfl, ?_⟩; refine ⟨_, rfl, ?_⟩; ((repeat ((fail_if_success refine ⟨_, _, _, .z, ?_⟩); refine hs ?_)); refine ⟨_, _, _, .z, ?_⟩); refine ⟨rfl, ?_⟩; go_frame) | ((with_reducible refine Hp.lds H ?_); refine ⟨rfl, by kernel_rfl, ?_⟩; refine ⟨_, s_look rfl, ?_⟩; refine ⟨_, _, rfl, ?_⟩; ((repeat ((fail_if_success refine ⟨_, _, _, .z, ?_⟩); refine hs ?_)); refine ⟨_, _, _, .z, ?_⟩); (first | refine ⟨enC e, rfl, rfl, ?_⟩ | refine ⟨baC r p, rfl, rfl, ?_⟩); go_frame) | ((with_reducible refine Hp.bdl H ?_); (fail); go_frame) | ((with_reducible refine (rwhole_v hn _).mono ?_); rintro _ w1 ⟨rfl, hb⟩; replace H := H.call hb; clear hb) | ((with_reducible refine (rgood_v hg _).mono ?_); rintro _ w1 ⟨rfl, hb⟩; replace H := H.call hb; clear hb) | ((with_reducible refine (rmaye_v hm hsm _).mono ?_); rintro _ w1 ⟨rfl, hb⟩; replace H := H.call hb; clear hb))
    go_ret
    exact ⟨ret_bool (by rw [d']; simp), H.below⟩
  have d : decide (ix ≤ be) = false := decide_eq_false (by omega)
  have d' : decide (be < ix) = true := decide_eq_true hb
  clear hb
  cases hz : balEq r p 0 0
  all_goals
    have hz' : ((r == 0) && (p == 0)) = _ := hz
    cases he : enZ e
    all_goals
      by_cases h2 : st = 2
      · subst h2
        rcases ch2 (balM r p n) (mayB e) with hg | ⟨hg, hm⟩ | ⟨hg, hm⟩
        · have hm := True.intro
          have H := Hp.nil w
          go_enter Tryd.func71, Tryd.ntmps71; go_wp2_with (first | ((with_reducible refine Hp.box H ?_); (first | refine ⟨rfl, rpC ⟨ix, _, r, p, e⟩, rfl, ?_⟩); (clear H; intro g1 w1 H); go_frame) | ((with_reducible refine Hp.ld H ?_); refine ⟨rfl, ?_⟩; refine ⟨c_look rfl, ?_⟩; refine ⟨_, _, rfl, ?_⟩; ((repeat ((fail_if_success refine ⟨_, _, _, .z, ?_⟩); refine hs ?_)); refine ⟨_, _, _, .z, ?_⟩); refine ⟨_, rfl, ?_⟩; go_frame) | ((with_reducible refine Hp.lda H ?_); refine ⟨rfl, by kernel_rfl, ?_⟩; refine ⟨_, s_look rfl, ?_⟩; refine ⟨_, rfl, ?_⟩; ((repeat ((fail_if_success refine ⟨_, _, _, .z, ?_⟩); refine hs ?_)); refine ⟨_, _, _, .z, ?_⟩); refine ⟨rfl, ?_⟩; go_frame) | ((with_reducible refine Hp.lds H ?_); refine ⟨rfl, by kernel_rfl, ?_⟩; refine ⟨_, s_look rfl, ?_⟩; refine ⟨_, _, rfl, ?_⟩; ((repeat ((fail_if_success refine ⟨_, _, _, .z, ?_⟩); refine hs ?_)); refine ⟨_, _, _, .z, ?_⟩); (first | refine ⟨enC e, rfl, rfl, ?_⟩ | refine ⟨baC r p, rfl, rfl, ?_⟩); go_frame) | ((with_reducible refine Hp.bdl H ?_); (fail); go_frame) | ((with_reducible refine (rwhole_v hn _).mono ?_); rintro _ w1 ⟨rfl, hb⟩; replace H := H.call hb; clear hb) | ((with_reducible refine (rgood_v hg _).mono ?_); rintro _ w1 ⟨rfl, hb⟩; replace H := H.call hb; clear hb) | ((with_reducible refine (rmaye_v hm hsm _).mono ?_); rintro _ w1 ⟨rfl, hb⟩; replace H := H.call hb; clear hb))
          ((with_reducible refine wp_region_hpK H (by kernel_rfl) (by kernel_rfl) ?_); intro _ KQ hKQ; (repeat (first | go_big_quiet_skip | ((with_reducible refine hq_ld ?_); refine ⟨rfl, ?_⟩; refine ⟨c_look rfl, ?_⟩; refine ⟨_, _, rfl, ?_⟩; ((repeat ((fail_if_success refine ⟨_, _, _, .z, ?_⟩); refine hs ?_)); refine ⟨_, _, _, .z, ?_⟩); refine ⟨_, rfl, ?_⟩; go_frame) | ((with_reducible refine hq_lda ?_); refine ⟨rfl, by kernel_rfl, ?_⟩; refine ⟨_, s_look rfl, ?_⟩; refine ⟨_, rfl, ?_⟩; ((repeat ((fail_if_success refine ⟨_, _, _, .z, ?_⟩); refine hs ?_)); refine ⟨_, _, _, .z, ?_⟩); refine ⟨rfl, ?_⟩; go_frame) | ((with_reducible refine hq_lds ?_); refine ⟨rfl, by kernel_rfl, ?_⟩; refine ⟨_, s_look rfl, ?_⟩; refine ⟨_, _, rfl, ?_⟩; ((repeat ((fail_if_success refine ⟨_, _, _, .z, ?_⟩); refine hs ?_)); refine ⟨_, _, _, .z, ?_⟩); (first | refine ⟨enC e, rfl, rfl, ?_⟩ | refine ⟨baC r p, rfl, rfl, ?_⟩); go_frame) | ((with_reducible refine hq_bdl (t := 23) (parts := []) ?_); refine ⟨rfl, _, b_ba0, ?_⟩; go_frame) | ((with_reducible refine hq_bdl (t := 27) (parts := []) ?_); refine ⟨rfl, _, b_en00, ?_⟩; go_frame) | ((with_reducible refine qB_eqBa ?_); refine ⟨rfl, _, _, _, _, rfl, rfl, _, hz, ?_⟩; go_frame) | ((with_reducible refine qB_eqEn ?_); refine ⟨rfl, _, _, rfl, rfl, _, he, ?_⟩; go_frame) | go_big_quiet_step ((fail)))); (with_reducible refine wpQuiet_nil (hKQ _ ?_)); clear hKQ; clear KQ H; intro w1 H)
          go_wp2_with (first | ((with_reducible refine Hp.box H ?_); (first | refine ⟨rfl, rpC ⟨ix, _, r, p, e⟩, rfl, ?_⟩); (clear H; intro g1 w1 H); go_frame) | ((with_reducible refine Hp.ld H ?_); refine ⟨rfl, ?_⟩; refine ⟨c_look rfl, ?_⟩; refine ⟨_, _, rfl, ?_⟩; ((repeat ((fail_if_success refine ⟨_, _, _, .z, ?_⟩); refine hs ?_)); refine ⟨_, _, _, .z, ?_⟩); refine ⟨_, rfl, ?_⟩; go_frame) | ((with_reducible refine Hp.lda H ?_); refine ⟨rfl, by kernel_rfl, ?_⟩; refine ⟨_, s_look rfl, ?_⟩; refine ⟨_, rfl, ?_⟩; ((repeat ((fail_if_success refine ⟨_, _, _, .z, ?_⟩); refine hs ?_)); refine ⟨_, _, _, .z, ?_⟩); refine ⟨rfl, ?_⟩; go_frame) | ((with_reducible refine Hp.lds H ?_); refine ⟨rfl, by kernel_rfl, ?_⟩; refine ⟨_, s_look rfl, ?_⟩; refine ⟨_, _, rfl, ?_⟩; ((repeat ((fail_if_success refine ⟨_, _, _, .z, ?_⟩); refine hs ?_)); refine ⟨_, _, _, .z, ?_⟩); (first | refine ⟨enC e, rfl, rfl, ?_⟩ | refine ⟨baC r p, rfl, rfl, ?_⟩); go_frame) | ((with_reducible refine Hp.bdl H ?_); (fail); go_frame) | ((with_reducible refine (rwhole_v hn _).mono ?_); rintro _ w1 ⟨rfl, hb⟩; replace H := H.call hb; clear hb) | ((with_reducible refine (rgood_v hg _).mono ?_); rintro _ w1 ⟨rfl, hb⟩; replace H := H.call hb; clear hb) | ((with_reducible refine (rmaye_v hm hsm _).mono ?_); rintro _ w1 ⟨rfl, hb⟩; replace H := H.call hb; clear hb))
          go_ret
          exact ⟨ret_bool (by unfold repB; rw [hn, d', hg, hz', he]; rfl), H.below⟩
        · have H := Hp.nil w
          go_enter Tryd.func71, Tryd.ntmps71; go_wp2_with (first | ((with_reducible refine Hp.box H ?_); (first | refine ⟨rfl, rpC ⟨ix, _, r, p, e⟩, rfl, ?_⟩); (clear H; intro g1 w1 H); go_frame) | ((with_reducible refine Hp.ld H ?_); refine ⟨rfl, ?_⟩; refine ⟨c_look rfl, ?_⟩; refine ⟨_, _, rfl, ?_⟩; ((repeat ((fail_if_success refine ⟨_, _, _, .z, ?_⟩); refine hs ?_)); refine ⟨_, _, _, .z, ?_⟩); refine ⟨_, rfl, ?_⟩; go_frame) | ((with_reducible refine Hp.lda H ?_); refine ⟨rfl, by kernel_rfl, ?_⟩; refine ⟨_, s_look rfl, ?_⟩; refine ⟨_, rfl, ?_⟩; ((repeat ((fail_if_success refine ⟨_, _, _, .z, ?_⟩); refine hs ?_)); refine ⟨_, _, _, .z, ?_⟩); refine ⟨rfl, ?_⟩; go_frame) | ((with_reducible refine Hp.lds H ?_); refine ⟨rfl, by kernel_rfl, ?_⟩; refine ⟨_, s_look rfl, ?_⟩; refine ⟨_, _, rfl, ?_⟩; ((repeat ((fail_if_success refine ⟨_, _, _, .z, ?_⟩); refine hs ?_)); refine ⟨_, _, _, .z, ?_⟩); (first | refine ⟨enC e, rfl, rfl, ?_⟩ | refine ⟨baC r p, rfl, rfl, ?_⟩); go_frame) | ((with_reducible refine Hp.bdl H ?_); (fail); go_frame) | ((with_reducible refine (rwhole_v hn _).mono ?_); rintro _ w1 ⟨rfl, hb⟩; replace H := H.call hb; clear hb) | ((with_reducible refine (rgood_v hg _).mono ?_); rintro _ w1 ⟨rfl, hb⟩; replace H := H.call hb; clear hb) | ((with_reducible refine (rmaye_v hm hsm _).mono ?_); rintro _ w1 ⟨rfl, hb⟩; replace H := H.call hb; clear hb))
          ((with_reducible refine wp_region_hpK H (by kernel_rfl) (by kernel_rfl) ?_); intro _ KQ hKQ; (repeat (first | go_big_quiet_skip | ((with_reducible refine hq_ld ?_); refine ⟨rfl, ?_⟩; refine ⟨c_look rfl, ?_⟩; refine ⟨_, _, rfl, ?_⟩; ((repeat ((fail_if_success refine ⟨_, _, _, .z, ?_⟩); refine hs ?_)); refine ⟨_, _, _, .z, ?_⟩); refine ⟨_, rfl, ?_⟩; go_frame) | ((with_reducible refine hq_lda ?_); refine ⟨rfl, by kernel_rfl, ?_⟩; refine ⟨_, s_look rfl, ?_⟩; refine ⟨_, rfl, ?_⟩; ((repeat ((fail_if_success refine ⟨_, _, _, .z, ?_⟩); refine hs ?_)); refine ⟨_, _, _, .z, ?_⟩); refine ⟨rfl, ?_⟩; go_frame) | ((with_reducible refine hq_lds ?_); refine ⟨rfl, by kernel_rfl, ?_⟩; refine ⟨_, s_look rfl, ?_⟩; refine ⟨_, _, rfl, ?_⟩; ((repeat ((fail_if_success refine ⟨_, _, _, .z, ?_⟩); refine hs ?_)); refine ⟨_, _, _, .z, ?_⟩); (first | refine ⟨enC e, rfl, rfl, ?_⟩ | refine ⟨baC r p, rfl, rfl, ?_⟩); go_frame) | ((with_reducible refine hq_bdl (t := 23) (parts := []) ?_); refine ⟨rfl, _, b_ba0, ?_⟩; go_frame) | ((with_reducible refine hq_bdl (t := 27) (parts := []) ?_); refine ⟨rfl, _, b_en00, ?_⟩; go_frame) | ((with_reducible refine qB_eqBa ?_); refine ⟨rfl, _, _, _, _, rfl, rfl, _, hz, ?_⟩; go_frame) | ((with_reducible refine qB_eqEn ?_); refine ⟨rfl, _, _, rfl, rfl, _, he, ?_⟩; go_frame) | go_big_quiet_step ((fail)))); (with_reducible refine wpQuiet_nil (hKQ _ ?_)); clear hKQ; clear KQ H; intro w1 H)
          go_wp2_with (first | ((with_reducible refine Hp.box H ?_); (first | refine ⟨rfl, rpC ⟨ix, _, r, p, e⟩, rfl, ?_⟩); (clear H; intro g1 w1 H); go_frame) | ((with_reducible refine Hp.ld H ?_); refine ⟨rfl, ?_⟩; refine ⟨c_look rfl, ?_⟩; refine ⟨_, _, rfl, ?_⟩; ((repeat ((fail_if_success refine ⟨_, _, _, .z, ?_⟩); refine hs ?_)); refine ⟨_, _, _, .z, ?_⟩); refine ⟨_, rfl, ?_⟩; go_frame) | ((with_reducible refine Hp.lda H ?_); refine ⟨rfl, by kernel_rfl, ?_⟩; refine ⟨_, s_look rfl, ?_⟩; refine ⟨_, rfl, ?_⟩; ((repeat ((fail_if_success refine ⟨_, _, _, .z, ?_⟩); refine hs ?_)); refine ⟨_, _, _, .z, ?_⟩); refine ⟨rfl, ?_⟩; go_frame) | ((with_reducible refine Hp.lds H ?_); refine ⟨rfl, by kernel_rfl, ?_⟩; refine ⟨_, s_look rfl, ?_⟩; refine ⟨_, _, rfl, ?_⟩; ((repeat ((fail_if_success refine ⟨_, _, _, .z, ?_⟩); refine hs ?_)); refine ⟨_, _, _, .z, ?_⟩); (first | refine ⟨enC e, rfl, rfl, ?_⟩ | refine ⟨baC r p, rfl, rfl, ?_⟩); go_frame) | ((with_reducible refine Hp.bdl H ?_); (fail); go_frame) | ((with_reducible refine (rwhole_v hn _).mono ?_); rintro _ w1 ⟨rfl, hb⟩; replace H := H.call hb; clear hb) | ((with_reducible refine (rgood_v hg _).mono ?_); rintro _ w1 ⟨rfl, hb⟩; replace H := H.call hb; clear hb) | ((with_reducible refine (rmaye_v hm hsm _).mono ?_); rintro _ w1 ⟨rfl, hb⟩; replace H := H.call hb; clear hb))
          go_ret
          exact ⟨ret_bool (by unfold repB; rw [hn, d', hg, hm, hz', he]; rfl), H.below⟩
        · have H := Hp.nil w
          go_enter Tryd.func71, Tryd.ntmps71; go_wp2_with (first | ((with_reducible refine Hp.box H ?_); (first | refine ⟨rfl, rpC ⟨ix, _, r, p, e⟩, rfl, ?_⟩); (clear H; intro g1 w1 H); go_frame) | ((with_reducible refine Hp.ld H ?_); refine ⟨rfl, ?_⟩; refine ⟨c_look rfl, ?_⟩; refine ⟨_, _, rfl, ?_⟩; ((repeat ((fail_if_success refine ⟨_, _, _, .z, ?_⟩); refine hs ?_)); refine ⟨_, _, _, .z, ?_⟩); refine ⟨_, rfl, ?_⟩; go_frame) | ((with_reducible refine Hp.lda H ?_); refine ⟨rfl, by kernel_rfl, ?_⟩; refine ⟨_, s_look rfl, ?_⟩; refine ⟨_, rfl, ?_⟩; ((repeat ((fail_if_success refine ⟨_, _, _, .z, ?_⟩); refine hs ?_)); refine ⟨_, _, _, .z, ?_⟩); refine ⟨rfl, ?_⟩; go_frame) | ((with_reducible refine Hp.lds H ?_); refine ⟨rfl, by kernel_rfl, ?_⟩; refine ⟨_, s_look rfl, ?_⟩; refine ⟨_, _, rfl, ?_⟩; ((repeat ((fail_if_success refine ⟨_, _, _, .z, ?_⟩); refine hs ?_)); refine ⟨_, _, _, .z, ?_⟩); (first | refine ⟨enC e, rfl, rfl, ?_⟩ | refine ⟨baC r p, rfl, rfl, ?_⟩); go_frame) | ((with_reducible refine Hp.bdl H ?_); (fail); go_frame) | ((with_reducible refine (rwhole_v hn _).mono ?_); rintro _ w1 ⟨rfl, hb⟩; replace H := H.call hb; clear hb) | ((with_reducible refine (rgood_v hg _).mono ?_); rintro _ w1 ⟨rfl, hb⟩; replace H := H.call hb; clear hb) | ((with_reducible refine (rmaye_v hm hsm _).mono ?_); rintro _ w1 ⟨rfl, hb⟩; replace H := H.call hb; clear hb))
          ((with_reducible refine wp_region_hpK H (by kernel_rfl) (by kernel_rfl) ?_); intro _ KQ hKQ; (repeat (first | go_big_quiet_skip | ((with_reducible refine hq_ld ?_); refine ⟨rfl, ?_⟩; refine ⟨c_look rfl, ?_⟩; refine ⟨_, _, rfl, ?_⟩; ((repeat ((fail_if_success refine ⟨_, _, _, .z, ?_⟩); refine hs ?_)); refine ⟨_, _, _, .z, ?_⟩); refine ⟨_, rfl, ?_⟩; go_frame) | ((with_reducible refine hq_lda ?_); refine ⟨rfl, by kernel_rfl, ?_⟩; refine ⟨_, s_look rfl, ?_⟩; refine ⟨_, rfl, ?_⟩; ((repeat ((fail_if_success refine ⟨_, _, _, .z, ?_⟩); refine hs ?_)); refine ⟨_, _, _, .z, ?_⟩); refine ⟨rfl, ?_⟩; go_frame) | ((with_reducible refine hq_lds ?_); refine ⟨rfl, by kernel_rfl, ?_⟩; refine ⟨_, s_look rfl, ?_⟩; refine ⟨_, _, rfl, ?_⟩; ((repeat ((fail_if_success refine ⟨_, _, _, .z, ?_⟩); refine hs ?_)); refine ⟨_, _, _, .z, ?_⟩); (first | refine ⟨enC e, rfl, rfl, ?_⟩ | refine ⟨baC r p, rfl, rfl, ?_⟩); go_frame) | ((with_reducible refine hq_bdl (t := 23) (parts := []) ?_); refine ⟨rfl, _, b_ba0, ?_⟩; go_frame) | ((with_reducible refine hq_bdl (t := 27) (parts := []) ?_); refine ⟨rfl, _, b_en00, ?_⟩; go_frame) | ((with_reducible refine qB_eqBa ?_); refine ⟨rfl, _, _, _, _, rfl, rfl, _, hz, ?_⟩; go_frame) | ((with_reducible refine qB_eqEn ?_); refine ⟨rfl, _, _, rfl, rfl, _, he, ?_⟩; go_frame) | go_big_quiet_step ((fail)))); (with_reducible refine wpQuiet_nil (hKQ _ ?_)); clear hKQ; clear KQ H; intro w1 H)
          go_wp2_with (first | ((with_reducible refine Hp.box H ?_); (first | refine ⟨rfl, rpC ⟨ix, _, r, p, e⟩, rfl, ?_⟩); (clear H; intro g1 w1 H); go_frame) | ((with_reducible refine Hp.ld H ?_); refine ⟨rfl, ?_⟩; refine ⟨c_look rfl, ?_⟩; refine ⟨_, _, rfl, ?_⟩; ((repeat ((fail_if_success refine ⟨_, _, _, .z, ?_⟩); refine hs ?_)); refine ⟨_, _, _, .z, ?_⟩); refine ⟨_, rfl, ?_⟩; go_frame) | ((with_reducible refine Hp.lda H ?_); refine ⟨rfl, by kernel_rfl, ?_⟩; refine ⟨_, s_look rfl, ?_⟩; refine ⟨_, rfl, ?_⟩; ((repeat ((fail_if_success refine ⟨_, _, _, .z, ?_⟩); refine hs ?_)); refine ⟨_, _, _, .z, ?_⟩); refine ⟨rfl, ?_⟩; go_frame) | ((with_reducible refine Hp.lds H ?_); refine ⟨rfl, by kernel_rfl, ?_⟩; refine ⟨_, s_look rfl, ?_⟩; refine ⟨_, _, rfl, ?_⟩; ((repeat ((fail_if_success refine ⟨_, _, _, .z, ?_⟩); refine hs ?_)); refine ⟨_, _, _, .z, ?_⟩); (first | refine ⟨enC e, rfl, rfl, ?_⟩ | refine ⟨baC r p, rfl, rfl, ?_⟩); go_frame) | ((with_reducible refine Hp.bdl H ?_); (fail); go_frame) | ((with_reducible refine (rwhole_v hn _).mono ?_); rintro _ w1 ⟨rfl, hb⟩; replace H := H.call hb; clear hb) | ((with_reducible refine (rgood_v hg _).mono ?_); rintro _ w1 ⟨rfl, hb⟩; replace H := H.call hb; clear hb) | ((with_reducible refine (rmaye_v hm hsm _).mono ?_); rintro _ w1 ⟨rfl, hb⟩; replace H := H.call hb; clear hb))
          go_ret
          exact ⟨ret_bool (by unfold repB; rw [hn, d', hg, hm, hz', he]; rfl), H.below⟩
      have b2 : (st == 2) = false := beq_eq_false_iff_ne.mpr h2
      have hm := True.intro
      by_cases h3 : st = 3
      · subst h3
        cases hg : balM r p n
        all_goals
          have H := Hp.nil w
          go_enter Tryd.func71, Tryd.ntmps71; go_wp2_with (first | ((with_reducible refine Hp.box H ?_); (first | refine ⟨rfl, rpC ⟨ix, _, r, p, e⟩, rfl, ?_⟩); (clear H; intro g1 w1 H); go_frame) | ((with_reducible refine Hp.ld H ?_); refine ⟨rfl, ?_⟩; refine ⟨c_look rfl, ?_⟩; refine ⟨_, _, rfl, ?_⟩; ((repeat ((fail_if_success refine ⟨_, _, _, .z, ?_⟩); refine hs ?_)); refine ⟨_, _, _, .z, ?_⟩); refine ⟨_, rfl, ?_⟩; go_frame) | ((with_reducible refine Hp.lda H ?_); refine ⟨rfl, by kernel_rfl, ?_⟩; refine ⟨_, s_look rfl, ?_⟩; refine ⟨_, rfl, ?_⟩; ((repeat ((fail_if_success refine ⟨_, _, _, .z, ?_⟩); refine hs ?_)); refine ⟨_, _, _, .z, ?_⟩); refine ⟨rfl, ?_⟩; go_frame) | ((with_reducible refine Hp.lds H ?_); refine ⟨rfl, by kernel_rfl, ?_⟩; refine ⟨_, s_look rfl, ?_⟩; refine ⟨_, _, rfl, ?_⟩; ((repeat ((fail_if_success refine ⟨_, _, _, .z, ?_⟩); refine hs ?_)); refine ⟨_, _, _, .z, ?_⟩); (first | refine ⟨enC e, rfl, rfl, ?_⟩ | refine ⟨baC r p, rfl, rfl, ?_⟩); go_frame) | ((with_reducible refine Hp.bdl H ?_); (fail); go_frame) | ((with_reducible refine (rwhole_v hn _).mono ?_); rintro _ w1 ⟨rfl, hb⟩; replace H := H.call hb; clear hb) | ((with_reducible refine (rgood_v hg _).mono ?_); rintro _ w1 ⟨rfl, hb⟩; replace H := H.call hb; clear hb) | ((with_reducible refine (rmaye_v hm hsm _).mono ?_); rintro _ w1 ⟨rfl, hb⟩; replace H := H.call hb; clear hb))
          ((with_reducible refine wp_region_hpK H (by kernel_rfl) (by kernel_rfl) ?_); intro _ KQ hKQ; (repeat (first | go_big_quiet_skip | ((with_reducible refine hq_ld ?_); refine ⟨rfl, ?_⟩; refine ⟨c_look rfl, ?_⟩; refine ⟨_, _, rfl, ?_⟩; ((repeat ((fail_if_success refine ⟨_, _, _, .z, ?_⟩); refine hs ?_)); refine ⟨_, _, _, .z, ?_⟩); refine ⟨_, rfl, ?_⟩; go_frame) | ((with_reducible refine hq_lda ?_); refine ⟨rfl, by kernel_rfl, ?_⟩; refine ⟨_, s_look rfl, ?_⟩; refine ⟨_, rfl, ?_⟩; ((repeat ((fail_if_success refine ⟨_, _, _, .z, ?_⟩); refine hs ?_)); refine ⟨_, _, _, .z, ?_⟩); refine ⟨rfl, ?_⟩; go_frame) | ((with_reducible refine hq_lds ?_); refine ⟨rfl, by kernel_rfl, ?_⟩; refine ⟨_, s_look rfl, ?_⟩; refine ⟨_, _, rfl, ?_⟩; ((repeat ((fail_if_success refine ⟨_, _, _, .z, ?_⟩); refine hs ?_)); refine ⟨_, _, _, .z, ?_⟩); (first | refine ⟨enC e, rfl, rfl, ?_⟩ | refine ⟨baC r p, rfl, rfl, ?_⟩); go_frame) | ((with_reducible refine hq_bdl (t := 23) (parts := []) ?_); refine ⟨rfl, _, b_ba0, ?_⟩; go_frame) | ((with_reducible refine hq_bdl (t := 27) (parts := []) ?_); refine ⟨rfl, _, b_en00, ?_⟩; go_frame) | ((with_reducible refine qB_eqBa ?_); refine ⟨rfl, _, _, _, _, rfl, rfl, _, hz, ?_⟩; go_frame) | ((with_reducible refine qB_eqEn ?_); refine ⟨rfl, _, _, rfl, rfl, _, he, ?_⟩; go_frame) | go_big_quiet_step ((fail)))); (with_reducible refine wpQuiet_nil (hKQ _ ?_)); clear hKQ; clear KQ H; intro w1 H)
          go_wp2_with (first | ((with_reducible refine Hp.box H ?_); (first | refine ⟨rfl, rpC ⟨ix, _, r, p, e⟩, rfl, ?_⟩); (clear H; intro g1 w1 H); go_frame) | ((with_reducible refine Hp.ld H ?_); refine ⟨rfl, ?_⟩; refine ⟨c_look rfl, ?_⟩; refine ⟨_, _, rfl, ?_⟩; ((repeat ((fail_if_success refine ⟨_, _, _, .z, ?_⟩); refine hs ?_)); refine ⟨_, _, _, .z, ?_⟩); refine ⟨_, rfl, ?_⟩; go_frame) | ((with_reducible refine Hp.lda H ?_); refine ⟨rfl, by kernel_rfl, ?_⟩; refine ⟨_, s_look rfl, ?_⟩; refine ⟨_, rfl, ?_⟩; ((repeat ((fail_if_success refine ⟨_, _, _, .z, ?_⟩); refine hs ?_)); refine ⟨_, _, _, .z, ?_⟩); refine ⟨rfl, ?_⟩; go_frame) | ((with_reducible refine Hp.lds H ?_); refine ⟨rfl, by kernel_rfl, ?_⟩; refine ⟨_, s_look rfl, ?_⟩; refine ⟨_, _, rfl, ?_⟩; ((repeat ((fail_if_success refine ⟨_, _, _, .z, ?_⟩); refine hs ?_)); refine ⟨_, _, _, .z, ?_⟩); (first | refine ⟨enC e, rfl, rfl, ?_⟩ | refine ⟨baC r p, rfl, rfl, ?_⟩); go_frame) | ((with_reducible refine Hp.bdl H ?_); (fail); go_frame) | ((with_reducible refine (rwhole_v hn _).mono ?_); rintro _ w1 ⟨rfl, hb⟩; replace H := H.call hb; clear hb) | ((with_reducible refine (rgood_v hg _).mono ?_); rintro _ w1 ⟨rfl, hb⟩; replace H := H.call hb; clear hb) | ((with_reducible refine (rmaye_v hm hsm _).mono ?_); rintro _ w1 ⟨rfl, hb⟩; replace H := H.call hb; clear hb))
          go_ret
          exact ⟨ret_bool (by unfold repB; rw [hn, d', hg, hz', he]; rfl), H.below⟩
      have b3 : (st == 3) = false := beq_eq_false_iff_ne.mpr h3
      have hg := True.intro
      by_cases h4 : st = 4
      · subst h4
        have H := Hp.nil w
        go_enter Tryd.func71, Tryd.ntmps71; go_wp2_with (first | ((with_reducible refine Hp.box H ?_); (first | refine ⟨rfl, rpC ⟨ix, _, r, p, e⟩, rfl, ?_⟩); (clear H; intro g1 w1 H); go_frame) | ((with_reducible refine Hp.ld H ?_); refine ⟨rfl, ?_⟩; refine ⟨c_look rfl, ?_⟩; refine ⟨_, _, rfl, ?_⟩; ((repeat ((fail_if_success refine ⟨_, _, _, .z, ?_⟩); refine hs ?_)); refine ⟨_, _, _, .z, ?_⟩); refine ⟨_, rfl, ?_⟩; go_frame) | ((with_reducible refine Hp.lda H ?_); refine ⟨rfl, by kernel_rfl, ?_⟩; refine ⟨_, s_look rfl, ?_⟩; refine ⟨_, rfl, ?_⟩; ((repeat ((fail_if_success refine ⟨_, _, _, .z, ?_⟩); refine hs ?_)); refine ⟨_, _, _, .z, ?_⟩); refine ⟨rfl, ?_⟩; go_frame) | ((with_reducible refine Hp.lds H ?_); refine ⟨rfl, by kernel_rfl, ?_⟩; refine ⟨_, s_look rfl, ?_⟩; refine ⟨_, _, rfl, ?_⟩; ((repeat ((fail_if_success refine ⟨_, _, _, .z, ?_⟩); refine hs ?_)); refine ⟨_, _, _, .z, ?_⟩); (first | refine ⟨enC e, rfl, rfl, ?_⟩ | refine ⟨baC r p, rfl, rfl, ?_⟩); go_frame) | ((with_reducible refine Hp.bdl H ?_); (fail); go_frame) | ((with_reducible refine (rwhole_v hn _).mono ?_); rintro _ w1 ⟨rfl, hb⟩; replace H := H.call hb; clear hb) | ((with_reducible refine (rgood_v hg _).mono ?_); rintro _ w1 ⟨rfl, hb⟩; replace H := H.call hb; clear hb) | ((with_reducible refine (rmaye_v hm hsm _).mono ?_); rintro _ w1 ⟨rfl, hb⟩; replace H := H.call hb; clear hb))
        ((with_reducible refine wp_region_hpK H (by kernel_rfl) (by kernel_rfl) ?_); intro _ KQ hKQ; (repeat (first | go_big_quiet_skip | ((with_reducible refine hq_ld ?_); refine ⟨rfl, ?_⟩; refine ⟨c_look rfl, ?_⟩; refine ⟨_, _, rfl, ?_⟩; ((repeat ((fail_if_success refine ⟨_, _, _, .z, ?_⟩); refine hs ?_)); refine ⟨_, _, _, .z, ?_⟩); refine ⟨_, rfl, ?_⟩; go_frame) | ((with_reducible refine hq_lda ?_); refine ⟨rfl, by kernel_rfl, ?_⟩; refine ⟨_, s_look rfl, ?_⟩; refine ⟨_, rfl, ?_⟩; ((repeat ((fail_if_success refine ⟨_, _, _, .z, ?_⟩); refine hs ?_)); refine ⟨_, _, _, .z, ?_⟩); refine ⟨rfl, ?_⟩; go_frame) | ((with_reducible refine hq_lds ?_); refine ⟨rfl, by kernel_rfl, ?_⟩; refine ⟨_, s_look rfl, ?_⟩; refine ⟨_, _, rfl, ?_⟩; ((repeat ((fail_if_success refine ⟨_, _, _, .z, ?_⟩); refine hs ?_)); refine ⟨_, _, _, .z, ?_⟩); (first | refine ⟨enC e, rfl, rfl, ?_⟩ | refine ⟨baC r p, rfl, rfl, ?_⟩); go_frame) | ((with_reducible refine hq_bdl (t := 23) (parts := []) ?_); refine ⟨rfl, _, b_ba0, ?_⟩; go_frame) | ((with_reducible refine hq_bdl (t := 27) (parts := []) ?_); refine ⟨rfl, _, b_en00, ?_⟩; go_frame) | ((with_reducible refine qB_eqBa ?_); refine ⟨rfl, _, _, _, _, rfl, rfl, _, hz, ?_⟩; go_frame) | ((with_reducible refine qB_eqEn ?_); refine ⟨rfl, _, _, rfl, rfl, _, he, ?_⟩; go_frame) | go_big_quiet_step ((fail)))); (with_reducible refine wpQuiet_nil (hKQ _ ?_)); clear hKQ; clear KQ H; intro w1 H)
        go_wp2_with (first | ((with_reducible refine Hp.box H ?_); (first | refine ⟨rfl, rpC ⟨ix, _, r, p, e⟩, rfl, ?_⟩); (clear H; intro g1 w1 H); go_frame) | ((with_reducible refine Hp.ld H ?_); refine ⟨rfl, ?_⟩; refine ⟨c_look rfl, ?_⟩; refine ⟨_, _, rfl, ?_⟩; ((repeat ((fail_if_success refine ⟨_, _, _, .z, ?_⟩); refine hs ?_)); refine ⟨_, _, _, .z, ?_⟩); refine ⟨_, rfl, ?_⟩; go_frame) | ((with_reducible refine Hp.lda H ?_); refine ⟨rfl, by kernel_rfl, ?_⟩; refine ⟨_, s_look rfl, ?_⟩; refine ⟨_, rfl, ?_⟩; ((repeat ((fail_if_success refine ⟨_, _, _, .z, ?_⟩); refine hs ?_)); refine ⟨_, _, _, .z, ?_⟩); refine ⟨rfl, ?_⟩; go_frame) | ((with_reducible refine Hp.lds H ?_); refine ⟨rfl, by kernel_rfl, ?_⟩; refine ⟨_, s_look rfl, ?_⟩; refine ⟨_, _, rfl, ?_⟩; ((repeat ((fail_if_success refine ⟨_, _, _, .z, ?_⟩); refine hs ?_)); refine ⟨_, _, _, .z, ?_⟩); (first | refine ⟨enC e, rfl, rfl, ?_⟩ | refine ⟨baC r p, rfl, rfl, ?_⟩); go_frame) | ((with_reducible refine Hp.bdl H ?_); (fail); go_frame) | ((with_reducible refine (rwhole_v hn _).mono ?_); rintro _ w1 ⟨rfl, hb⟩; replace H := H.call hb; clear hb) | ((with_reducible refine (rgood_v hg _).mono ?_); rintro _ w1 ⟨rfl, hb⟩; replace H := H.call hb; clear hb) | ((with_reducible refine (rmaye_v hm hsm _).mono ?_); rintro _ w1 ⟨rfl, hb⟩; replace H := H.call hb; clear hb))
        go_ret
        exact ⟨ret_bool (by unfold repB; rw [hn, d', hz', he]; rfl), H.below⟩
      have b4 : (st == 4) = false := beq_eq_false_iff_ne.mpr h4
      have H := Hp.nil w
      go_enter Tryd.func71, Tryd.ntmps71; go_wp2_with (first | ((with_reducible refine Hp.box H ?_); (first | refine ⟨rfl, rpC ⟨ix, _, r, p, e⟩, rfl, ?_⟩); (clear H; intro g1 w1 H); go_frame) | ((with_reducible refine Hp.ld H ?_); refine ⟨rfl, ?_⟩; refine ⟨c_look rfl, ?_⟩; refine ⟨_, _, rfl, ?_⟩; ((repeat ((fail_if_success refine ⟨_, _, _, .z, ?_⟩); refine hs ?_)); refine ⟨_, _, _, .z, ?_⟩); refine ⟨_, rfl, ?_⟩; go_frame) | ((with_reducible refine Hp.lda H ?_); refine ⟨rfl, by kernel_rfl, ?_⟩; refine ⟨_, s_look rfl, ?_⟩; refine ⟨_, rfl, ?_⟩; ((repeat ((fail_if_success refine ⟨_, _, _, .z, ?_⟩); refine hs ?_)); refine ⟨_, _, _, .z, ?_⟩); refine ⟨rfl, ?_⟩; go_frame) | ((with_reducible refine Hp.lds H ?_); refine ⟨rfl, by kernel_rfl, ?_⟩; refine ⟨_, s_look rfl, ?_⟩; refine ⟨_, _, rfl, ?_⟩; ((repeat ((fail_if_success refine ⟨_, _, _, .z, ?_⟩); refine hs ?_)); refine ⟨_, _, _, .z, ?_⟩); (first | refine ⟨enC e, rfl, rfl, ?_⟩ | refine ⟨baC r p, rfl, rfl, ?_⟩); go_frame) | ((with_reducible refine Hp.bdl H ?_); (fail); go_frame) | ((with_reducible refine (rwhole_v hn _).mono ?_); rintro _ w1 ⟨rfl, hb⟩; replace H := H.call hb; clear hb) | ((with_reducible refine (rgood_v hg _).mono ?_); rintro _ w1 ⟨rfl, hb⟩; replace H := H.call hb; clear hb) | ((with_reducible refine (rmaye_v hm hsm _).mono ?_); rintro _ w1 ⟨rfl, hb⟩; replace H := H.call hb; clear hb))
      ((with_reducible refine wp_region_hpK H (by kernel_rfl) (by kernel_rfl) ?_); intro _ KQ hKQ; (repeat (first | go_big_quiet_skip | ((with_reducible refine hq_ld ?_); refine ⟨rfl, ?_⟩; refine ⟨c_look rfl, ?_⟩; refine ⟨_, _, rfl, ?_⟩; ((repeat ((fail_if_success refine ⟨_, _, _, .z, ?_⟩); refine hs ?_)); refine ⟨_, _, _, .z, ?_⟩); refine ⟨_, rfl, ?_⟩; go_frame) | ((with_reducible refine hq_lda ?_); refine ⟨rfl, by kernel_rfl, ?_⟩; refine ⟨_, s_look rfl, ?_⟩; refine ⟨_, rfl, ?_⟩; ((repeat ((fail_if_success refine ⟨_, _, _, .z, ?_⟩); refine hs ?_)); refine ⟨_, _, _, .z, ?_⟩); refine ⟨rfl, ?_⟩; go_frame) | ((with_reducible refine hq_lds ?_); refine ⟨rfl, by kernel_rfl, ?_⟩; refine ⟨_, s_look rfl, ?_⟩; refine ⟨_, _, rfl, ?_⟩; ((repeat ((fail_if_success refine ⟨_, _, _, .z, ?_⟩); refine hs ?_)); refine ⟨_, _, _, .z, ?_⟩); (first | refine ⟨enC e, rfl, rfl, ?_⟩ | refine ⟨baC r p, rfl, rfl, ?_⟩); go_frame) | ((with_reducible refine hq_bdl (t := 23) (parts := []) ?_); refine ⟨rfl, _, b_ba0, ?_⟩; go_frame) | ((with_reducible refine hq_bdl (t := 27) (parts := []) ?_); refine ⟨rfl, _, b_en00, ?_⟩; go_frame) | ((with_reducible refine qB_eqBa ?_); refine ⟨rfl, _, _, _, _, rfl, rfl, _, hz, ?_⟩; go_frame) | ((with_reducible refine qB_eqEn ?_); refine ⟨rfl, _, _, rfl, rfl, _, he, ?_⟩; go_frame) | go_big_quiet_step ((fail)))); (with_reducible refine wpQuiet_nil (hKQ _ ?_)); clear hKQ; clear KQ H; intro w1 H)
      go_wp2_with (first | ((with_reducible refine Hp.box H ?_); (first | refine ⟨rfl, rpC ⟨ix, _, r, p, e⟩, rfl, ?_⟩); (clear H; intro g1 w1 H); go_frame) | ((with_reducible refine Hp.ld H ?_); refine ⟨rfl, ?_⟩; refine ⟨c_look rfl, ?_⟩; refine ⟨_, _, rfl, ?_⟩; ((repeat ((fail_if_success refine ⟨_, _, _, .z, ?_⟩); refine hs ?_)); refine ⟨_, _, _, .z, ?_⟩); refine ⟨_, rfl, ?_⟩; go_frame) | ((with_reducible refine Hp.lda H ?_); refine ⟨rfl, by kernel_rfl, ?_⟩; refine ⟨_, s_look rfl, ?_⟩; refine ⟨_, rfl, ?_⟩; ((repeat ((fail_if_success refine ⟨_, _, _, .z, ?_⟩); refine hs ?_)); refine ⟨_, _, _, .z, ?_⟩); refine ⟨rfl, ?_⟩; go_frame) | ((with_reducible refine Hp.lds H ?_); refine ⟨rfl, by kernel_rfl, ?_⟩; refine ⟨_, s_look rfl, ?_⟩; refine ⟨_, _, rfl, ?_⟩; ((repeat ((fail_if_success refine ⟨_, _, _, .z, ?_⟩); refine hs ?_)); refine ⟨_, _, _, .z, ?_⟩); (first | refine ⟨enC e, rfl, rfl, ?_⟩ | refine ⟨baC r p, rfl, rfl, ?_⟩); go_frame) | ((with_reducible refine Hp.bdl H ?_); (fail); go_frame) | ((with_reducible refine (rwhole_v hn _).mono ?_); rintro _ w1 ⟨rfl, hb⟩; replace H := H.call hb; clear hb) | ((with_reducible refine (rgood_v hg _).mono ?_); rintro _ w1 ⟨rfl, hb⟩; replace H := H.call hb; clear hb) | ((with_reducible refine (rmaye_v hm hsm _).mono ?_); rintro _ w1 ⟨rfl, hb⟩; replace H := H.call hb; clear hb))
      go_ret
      exact ⟨ret_bool (by unfold repB; rw [hn, d', hz', he, b2, b3, b4]; rfl), H.below⟩
theorem rmayrep_v {x : Rp} {be n : Int} {b : Bool} {w : World} (h : (repB x n && decide (be < x.ix)) = b) (hsm : Sm x.e) :
    Calls Tryd.prog 71 #[.agg (rpC x).toArray, .int .i64 be, .int .i64 n] w (RetV w (.bool b)) := by
  subst h
  exact rmayrep_any x.ix x.st x.r x.p x.e be n w hsm
/-- the loop's relation -/
def MRel (w : World) (rs : List Rp) (n : Int) (vb vi : Value) (wr : World) : Prop :=
  ∃ (k : Nat) (be : Int), k ≤ rs.length ∧ vi = .int .i64 k ∧ vb = .int .i64 be ∧ be = (if k = 0 then 0 else (rs.getD (k - 1) rp0).ix) ∧ (∀ i (h : i < rs.length), i < k → repB rs[i] n = true ∧ (if i = 0 then (0 : Int) else (rs.getD (i - 1) rp0).ix) < rs[i].ix) ∧ Below w.heap.size w wr
set_option maxHeartbeats 4000000 in
theorem rmayreps_any (A : Option Addr) (c : Nat) (rs : List Rp) (n : Int) (w : World) (hr : RRp w A rs) (hok : ∀ x ∈ rs, RpOk x) (hl : rs.length ≤ c) (hm0 : c ≤ maxLen) :
    Calls Tryd.prog 67 #[.slice A rs.length c, .int .i64 n] w (RetV w (.bool (repsB rs n))) := by
  have H := Hp.nil w
  have hb := True.intro
  have hrk := True.intro
  go_enter Tryd.func67, Tryd.ntmps67
  go_wp2_with (first | ((with_reducible refine Hp.ld H ?_); refine ⟨rfl, ?_⟩; refine ⟨c_look rfl, ?_⟩; refine ⟨_, _, rfl, ?_⟩; ((repeat ((fail_if_success refine ⟨_, _, _, .z, ?_⟩); refine hs ?_)); refine ⟨_, _, _, .z, ?_⟩); refine ⟨_, rfl, ?_⟩; go_frame) | ((with_reducible refine Hp.lda H ?_); refine ⟨rfl, by kernel_rfl, ?_⟩; refine ⟨_, s_look rfl, ?_⟩; refine ⟨_, rfl, ?_⟩; ((repeat ((fail_if_success refine ⟨_, _, _, .z, ?_⟩); refine hs ?_)); refine ⟨_, _, _, .z, ?_⟩); refine ⟨rfl, ?_⟩; go_frame) | ((with_reducible refine Hp.lds H ?_); refine ⟨rfl, by kernel_rfl, ?_⟩; refine ⟨_, s_look rfl, ?_⟩; refine ⟨_, _, rfl, ?_⟩; ((repeat ((fail_if_success refine ⟨_, _, _, .z, ?_⟩); refine hs ?_)); refine ⟨_, _, _, .z, ?_⟩); (first | refine ⟨enC e, rfl, rfl, ?_⟩ | refine ⟨baC r p, rfl, rfl, ?_⟩); go_frame) | ((with_reducible refine Hp.ldrO H ?_); refine ⟨rfl, by kernel_rfl, _, _, rfl, _, hrk, s_Report, ?_⟩; go_frame) | ((with_reducible refine (rmayrep_v hb HSM.out).mono ?_); rintro _ w1 ⟨rfl, hb⟩; replace H := H.call hb; clear hb) | ((with_reducible refine Hp.ldo H ?_); refine ⟨rfl, ?_⟩; refine ⟨c_look rfl, ?_⟩; refine ⟨_, rfl, ?_⟩; refine ⟨_, ‹_›, ?_⟩; go_frame))
  have hat : MRel w rs n (.int .i64 0) (.int .i64 (0 : Nat)) w := ⟨0, 0, Nat.zero_le _, rfl, rfl, rfl, fun i _ h => absurd h (by omega), Below.refl _ _⟩
  clear hb hrk H
  go_loopw [5, 6] (fun vb v wr => MRel w rs n vb v wr) (fun _ v _ => rs.length - (intOf v).toNat)
  case atStart => exact hat
  case round =>
    clear hat
    obtain ⟨k, be, hk, rfl, rfl, hbe, hall, hbl⟩ := hrel
    have HA := Lib.hid hall
    have HBE := Lib.hid hbe
    clear hall hbe
    unfold maxLen at hm0
    have H : Hp w wr [] := (Hp.nil w).call hbl
    clear hbl
    by_cases hlt : k < rs.length
    · obtain ⟨b, o, rfl, hrow⟩ := hr (fun e => by subst e; simp at hlt)
      have hrk := hrow k hlt
      have HSM := Lib.hid (hok _ (List.getElem_mem hlt)).2.2.2.2.1
      have hix : w.cell? ⟨b, o + k * 11, none⟩ = some (.int .i64 rs[k].ix) := hrow k hlt 0 _ rfl
      have hgd : (rs.getD k rp0) = rs[k] := by rw [List.getD_eq_getElem?_getD, List.getElem?_eq_getElem hlt]; rfl
      have HGD := Lib.hid hgd
      have hK := hlt
      clear hgd hrow
      cases hb : (repB rs[k] n && decide (be < rs[k].ix))
      · go_wp2_with (first | ((with_reducible refine Hp.ld H ?_); refine ⟨rfl, ?_⟩; refine ⟨c_look rfl, ?_⟩; refine ⟨_, _, rfl, ?_⟩; ((repeat ((fail_if_success refine ⟨_, _, _, .z, ?_⟩); refine hs ?_)); refine ⟨_, _, _, .z, ?_⟩); refine ⟨_, rfl, ?_⟩; go_frame) | ((with_reducible refine Hp.lda H ?_); refine ⟨rfl, by kernel_rfl, ?_⟩; refine ⟨_, s_look rfl, ?_⟩; refine ⟨_, rfl, ?_⟩; ((repeat ((fail_if_success refine ⟨_, _, _, .z, ?_⟩); refine hs ?_)); refine ⟨_, _, _, .z, ?_⟩); refine ⟨rfl, ?_⟩; go_frame) | ((with_reducible refine Hp.lds H ?_); refine ⟨rfl, by kernel_rfl, ?_⟩; refine ⟨_, s_look rfl, ?_⟩; refine ⟨_, _, rfl, ?_⟩; ((repeat ((fail_if_success refine ⟨_, _, _, .z, ?_⟩); refine hs ?_)); refine ⟨_, _, _, .z, ?_⟩); (first | refine ⟨enC e, rfl, rfl, ?_⟩ | refine ⟨baC r p, rfl, rfl, ?_⟩); go_frame) | ((with_reducible refine Hp.ldrO H ?_); refine ⟨rfl, by kernel_rfl, _, _, rfl, _, hrk, s_Report, ?_⟩; go_frame) | ((with_reducible refine (rmayrep_v hb HSM.out).mono ?_); rintro _ w1 ⟨rfl, hb⟩; replace H := H.call hb; clear hb) | ((with_reducible refine Hp.ldo H ?_); refine ⟨rfl, ?_⟩; refine ⟨c_look rfl, ?_⟩; refine ⟨_, rfl, ?_⟩; refine ⟨_, ‹_›, ?_⟩; go_frame))
        go_ret
        refine ⟨ret_bool ?_, H.below⟩
        have : repsOk 0 rs n = false := by
          cases e : repsOk 0 rs n
          · rfl
          · obtain ⟨h1, h2⟩ := (repsOk_iff n rs 0).1 e k hK
            rw [← HBE.out] at h2
            rw [h1, decide_eq_true h2] at hb
            cases hb
        unfold repsB
        rw [this]
        rfl
      · simp only [Bool.and_eq_true, decide_eq_true_eq] at hb
        have HB := Lib.hid hb
        have hb : (repB rs[k] n && decide (be < rs[k].ix)) = true := by rw [HB.out.1, decide_eq_true HB.out.2]; rfl
        go_wp2_with (first | ((with_reducible refine Hp.ld H ?_); refine ⟨rfl, ?_⟩; refine ⟨c_look rfl, ?_⟩; refine ⟨_, _, rfl, ?_⟩; ((repeat ((fail_if_success refine ⟨_, _, _, .z, ?_⟩); refine hs ?_)); refine ⟨_, _, _, .z, ?_⟩); refine ⟨_, rfl, ?_⟩; go_frame) | ((with_reducible refine Hp.lda H ?_); refine ⟨rfl, by kernel_rfl, ?_⟩; refine ⟨_, s_look rfl, ?_⟩; refine ⟨_, rfl, ?_⟩; ((repeat ((fail_if_success refine ⟨_, _, _, .z, ?_⟩); refine hs ?_)); refine ⟨_, _, _, .z, ?_⟩); refine ⟨rfl, ?_⟩; go_frame) | ((with_reducible refine Hp.lds H ?_); refine ⟨rfl, by kernel_rfl, ?_⟩; refine ⟨_, s_look rfl, ?_⟩; refine ⟨_, _, rfl, ?_⟩; ((repeat ((fail_if_success refine ⟨_, _, _, .z, ?_⟩); refine hs ?_)); refine ⟨_, _, _, .z, ?_⟩); (first | refine ⟨enC e, rfl, rfl, ?_⟩ | refine ⟨baC r p, rfl, rfl, ?_⟩); go_frame) | ((with_reducible refine Hp.ldrO H ?_); refine ⟨rfl, by kernel_rfl, _, _, rfl, _, hrk, s_Report, ?_⟩; go_frame) | ((with_reducible refine (rmayrep_v hb HSM.out).mono ?_); rintro _ w1 ⟨rfl, hb⟩; replace H := H.call hb; clear hb) | ((with_reducible refine Hp.ldo H ?_); refine ⟨rfl, ?_⟩; refine ⟨c_look rfl, ?_⟩; refine ⟨_, rfl, ?_⟩; refine ⟨_, ‹_›, ?_⟩; go_frame))
        go_roundw
        case rel =>
          refine ⟨k + 1, rs[k].ix, hK, rfl, rfl, ?_, fun i h hi => ?_, H.below⟩
          · rw [if_neg (by omega), Nat.add_sub_cancel, HGD.out]
          · by_cases hik : i < k
            · exact HA.out i h hik
            · obtain rfl : i = k := by omega
              rw [← HBE.out]
              exact HB.out
        case measure => show rs.length - ((k : Int) + 1).toNat < rs.length - ((k : Int)).toNat; omega
    · obtain rfl : k = rs.length := by omega
      have hall : repsOk 0 rs n = true := (repsOk_iff n rs 0).2 fun i h => HA.out i h h
      have hb := True.intro
      have hrk := True.intro
      have HSM := True.intro
      cases d : decide ((rs.length : Int) ≤ 24)
      all_goals
        go_wp2_with (first | ((with_reducible refine Hp.ld H ?_); refine ⟨rfl, ?_⟩; refine ⟨c_look rfl, ?_⟩; refine ⟨_, _, rfl, ?_⟩; ((repeat ((fail_if_success refine ⟨_, _, _, .z, ?_⟩); refine hs ?_)); refine ⟨_, _, _, .z, ?_⟩); refine ⟨_, rfl, ?_⟩; go_frame) | ((with_reducible refine Hp.lda H ?_); refine ⟨rfl, by kernel_rfl, ?_⟩; refine ⟨_, s_look rfl, ?_⟩; refine ⟨_, rfl, ?_⟩; ((repeat ((fail_if_success refine ⟨_, _, _, .z, ?_⟩); refine hs ?_)); refine ⟨_, _, _, .z, ?_⟩); refine ⟨rfl, ?_⟩; go_frame) | ((with_reducible refine Hp.lds H ?_); refine ⟨rfl, by kernel_rfl, ?_⟩; refine ⟨_, s_look rfl, ?_⟩; refine ⟨_, _, rfl, ?_⟩; ((repeat ((fail_if_success refine ⟨_, _, _, .z, ?_⟩); refine hs ?_)); refine ⟨_, _, _, .z, ?_⟩); (first | refine ⟨enC e, rfl, rfl, ?_⟩ | refine ⟨baC r p, rfl, rfl, ?_⟩); go_frame) | ((with_reducible refine Hp.ldrO H ?_); refine ⟨rfl, by kernel_rfl, _, _, rfl, _, hrk, s_Report, ?_⟩; go_frame) | ((with_reducible refine (rmayrep_v hb HSM.out).mono ?_); rintro _ w1 ⟨rfl, hb⟩; replace H := H.call hb; clear hb) | ((with_reducible refine Hp.ldo H ?_); refine ⟨rfl, ?_⟩; refine ⟨c_look rfl, ?_⟩; refine ⟨_, rfl, ?_⟩; refine ⟨_, ‹_›, ?_⟩; go_frame))
        go_ret
        refine ⟨ret_bool ?_, H.below⟩
        unfold repsB
        rw [hall, Bool.true_and]
        first
        | (have := of_decide_eq_true d; exact (decide_eq_true (by omega)).symm)
        | (have := of_decide_eq_false d; exact (decide_eq_false (by omega)).symm)
theorem rmayreps_v {A : Option Addr} {c : Nat} {rs : List Rp} {n : Int} {w : World} {b : Bool} {m : Nat} (h : repsB rs n = b) (hn : m = rs.length) (hr : RRp w A rs) (hok : ∀ x ∈ rs, RpOk x) (hl : m ≤ c) (hm0 : c ≤ maxLen) :
    Calls Tryd.prog 67 #[.slice A m c, .int .i64 n] w (RetV w (.bool b)) := by
  subst h hn
  exact rmayreps_any A c rs n w hr hok hl hm0
end Go.Proofs.YtiieakndjheknaaDoor
