/-
  THE WALK OF sextonref20.May.
-/
import Derived.Test.YtajgikjmoeemnaaDoorMsgJ
import Derived.Test.YtajgikjmoeemnaaDoorMsgL
import Derived.Test.YtajgikjmoeemnaaDoorMsgNa
import Derived.Test.YtajgikjmoeemnaaDoorMsgNb
import Derived.Test.YtajgikjmoeemnaaDoorMsgNc
import Derived.Test.YtajgikjmoeemnaaDoorMsgNd
namespace Go.Proofs.YtajgikjmoeemnaaDoor
set_option maxRecDepth 100000
open Go.RowKit
set_option linter.unusedVariables false
set_option linter.unusedSimpArgs false
theorem right_any (m : Mg) (rs : List Rp) (l : List UInt8) (n : Int) (w : World) (hN : MgN m) (hR : MgR w m rs l) :
    Calls Tryd.prog 39 #[.agg (mgC m).toArray, .int .i64 n] w (RetV w (.bool (rightB m rs n))) := by
  cases hk : kindB m.k
  · exact right_0 m rs l n w hN hR hk
  rcases kinds hk with h | h | h | h | h | h | h | h | h | h | h | h | h | h | h
  · exact right_1 m rs l n w hN hR h
  · exact right_2 m rs l n w hN hR h
  · exact right_3 m rs l n w hN hR h
  · exact right_4 m rs l n w hN hR h
  · exact right_5 m rs l n w hN hR h
  · exact right_6 m rs l n w hN hR h
  · exact right_7 m rs l n w hN hR h
  · exact right_8 m rs l n w hN hR h
  · exact right_9 m rs l n w hN hR h
  · exact right_10 m rs l n w hN hR h
  · exact right_11 m rs l n w hN hR h
  · exact right_12 m rs l n w hN hR h
  · exact right_13 m rs l n w hN hR h
  · exact right_14 m rs l n w hN hR h
  · exact right_15 m rs l n w hN hR h
theorem right_v {m : Mg} {rs : List Rp} {l : List UInt8} {n : Int} {b : Bool} {w : World} (h : rightB m rs n = b) (hN : MgN m) (hR : MgR w m rs l) :
    Calls Tryd.prog 39 #[.agg (mgC m).toArray, .int .i64 n] w (RetV w (.bool b)) := by
  subst h
  exact right_any m rs l n w hN hR
theorem rep_in (n i : Int) : repIx n i = inB i 0 (n - 1) := by unfold repIx inB; congr 1; rw [decide_eq_decide]; omega
theorem cli_in (i : Int) : cliIx i = inB i (-4) (-1) := by
  unfold cliIx inB
  rw [Bool.and_comm]
  congr 1
  rw [decide_eq_decide]
  omega
theorem rmay_eq (m : Mg) (rs : List Rp) (l : List UInt8) (n : Int) : mayM m rs l n = (crowdB n && (sameM (bareM m) (bareR m rs) (bareY m l) m rs l && (rightB m rs n && endsB m n))) := by
  unfold mayM rightB
  cases kindB m.k <;> cases crowdB n <;> cases endsB m n <;> cases sameM (bareM m) (bareR m rs) (bareY m l) m rs l <;> simp
theorem MgR.rdx {w0 : World} {L : List Item} {m : Mg} {rs : List Rp} {l : List UInt8} (h : MgR w0 m rs l) (x : HpS w0 L) : MgR x.val m rs l := h.below x.2.below
set_option maxHeartbeats 8000000 in
theorem rmaym_any (m : Mg) (rs : List Rp) (l : List UInt8) (n : Int) (w : World) (hN : MgN m) (hR : MgR w m rs l) (hn1 : -9223372036854775808 ≤ n) (hn2 : n ≤ 9223372036854775807) :
    Calls Tryd.prog 15 #[.agg (mgC m).toArray, .int .i64 n] w (RetV w (.bool (mayM m rs l n))) := by
  have hRb := bare_r hR
  rcases ch3 (crowdB n) (sameM (bareM m) (bareR m rs) (bareY m l) m rs l) (rightB m rs n) with hc | ⟨hc, hsa⟩ | ⟨hc, hsa, hri⟩ | ⟨hc, hsa, hri⟩
  · have hsa := True.intro
    have hri := True.intro
    have e1 := True.intro
    have e2 := True.intro
    have e3 := True.intro
    have H := Hp.nil w; go_enter Tryd.func15, Tryd.ntmps15; go_wp2_with (first | ((with_reducible refine Hp.box H ?_); (first | refine ⟨rfl, mgC m, rfl, ?_⟩); (clear H; intro g1 w1 H); go_frame)); ((with_reducible refine wp_region_hpK H (by kernel_rfl) (by kernel_rfl) ?_); intro _ KQ hKQ; (repeat (first | go_big_quiet_skip | go_big_quiet_step ((first | (with_reducible exact hq_call (rcrowd_v hc _)) | (with_reducible exact hq_call (only_any m _)) | (with_reducible exact hq_call (rsame_v hsa (hRb.rdx _) (hR.rdx _))) | (with_reducible exact hq_call (right_v hri hN (hR.rdx _))) | (with_reducible exact hq_call (rin_v e1 _)) | (with_reducible exact hq_call (rin_v e2 _)))))); (with_reducible refine wpQuiet_nil (hKQ _ ?_)); clear hKQ; clear KQ H; intro w1 H); go_wp2_with (first | (fail))
    go_ret
    exact ⟨ret_bool (by rw [rmay_eq, hc]; rfl), H.below⟩
  · have hri := True.intro
    have e1 := True.intro
    have e2 := True.intro
    have e3 := True.intro
    have H := Hp.nil w; go_enter Tryd.func15, Tryd.ntmps15; go_wp2_with (first | ((with_reducible refine Hp.box H ?_); (first | refine ⟨rfl, mgC m, rfl, ?_⟩); (clear H; intro g1 w1 H); go_frame)); ((with_reducible refine wp_region_hpK H (by kernel_rfl) (by kernel_rfl) ?_); intro _ KQ hKQ; (repeat (first | go_big_quiet_skip | ((with_reducible refine hq_lda ?_); refine ⟨rfl, by kernel_rfl, ?_⟩; refine ⟨_, s_look rfl, ?_⟩; refine ⟨_, rfl, ?_⟩; ((repeat ((fail_if_success refine ⟨_, _, _, .z, ?_⟩); refine hs ?_)); refine ⟨_, _, _, .z, ?_⟩); refine ⟨rfl, ?_⟩; go_frame) | go_big_quiet_step ((first | (with_reducible exact hq_call (rcrowd_v hc _)) | (with_reducible exact hq_call (only_any m _)) | (with_reducible exact hq_call (rsame_v hsa (hRb.rdx _) (hR.rdx _))) | (with_reducible exact hq_call (right_v hri hN (hR.rdx _))) | (with_reducible exact hq_call (rin_v e1 _)) | (with_reducible exact hq_call (rin_v e2 _)))))); (with_reducible refine wpQuiet_nil (hKQ _ ?_)); clear hKQ; clear KQ H; intro w1 H); go_wp2_with (first | (fail))
    go_ret
    exact ⟨ret_bool (by rw [rmay_eq, hc, hsa]; rfl), H.below⟩
  · have e1 := True.intro
    have e2 := True.intro
    have e3 := True.intro
    have H := Hp.nil w; go_enter Tryd.func15, Tryd.ntmps15; go_wp2_with (first | ((with_reducible refine Hp.box H ?_); (first | refine ⟨rfl, mgC m, rfl, ?_⟩); (clear H; intro g1 w1 H); go_frame)); ((with_reducible refine wp_region_hpK H (by kernel_rfl) (by kernel_rfl) ?_); intro _ KQ hKQ; (repeat (first | ((with_reducible refine hq_lda ?_); refine ⟨rfl, by kernel_rfl, ?_⟩; refine ⟨_, s_look rfl, ?_⟩; refine ⟨_, rfl, ?_⟩; ((repeat ((fail_if_success refine ⟨_, _, _, .z, ?_⟩); refine hs ?_)); refine ⟨_, _, _, .z, ?_⟩); refine ⟨rfl, ?_⟩; go_frame) | go_big_quiet_step ((first | (with_reducible exact hq_call (rcrowd_v hc _)) | (with_reducible exact hq_call (only_any m _)) | (with_reducible exact hq_call (rsame_v hsa (hRb.rdx _) (hR.rdx _))) | (with_reducible exact hq_call (right_v hri hN (hR.rdx _))) | (with_reducible exact hq_call (rin_v e1 _)) | (with_reducible exact hq_call (rin_v e2 _)))))); (with_reducible refine wpQuiet_nil (hKQ _ ?_)); clear hKQ; clear KQ H; intro w1 H); go_wp2_with (first | (fail))
    go_ret
    exact ⟨ret_bool (by rw [rmay_eq, hc, hsa, hri]; rfl), H.below⟩
  · have hcr : n = 3 ∨ n = 5 ∨ n = 7 := by simpa [crowdB] using hc
    have hw : IntKind.i64.wrap (n - 1) = n - 1 := IntWalk.i64_in _ (by omega)
    by_cases k1 : m.k = 1
    · have hE : endsB m n = (inB m.fr (-4) (-1) && inB m.to 0 (n - 1)) := by unfold endsB; rw [if_pos k1, rep_in, cli_in]
      have HE := Lib.hid hE
      have b1 : (m.k == 1) = true := by rw [k1]; rfl
      clear hE k1 hcr
      cases e1 : inB m.fr 0 (n - 1)
      all_goals
        cases e2 : inB m.to 0 (n - 1)
        all_goals
          cases e3 : inB m.fr (-4) (-1)
          all_goals
            have H := Hp.nil w; go_enter Tryd.func15, Tryd.ntmps15; go_wp2_with (first | ((with_reducible refine Hp.box H ?_); (first | refine ⟨rfl, mgC m, rfl, ?_⟩); (clear H; intro g1 w1 H); go_frame)); ((with_reducible refine wp_region_hpK H (by kernel_rfl) (by kernel_rfl) ?_); intro _ KQ hKQ; (repeat (first | ((with_reducible refine hq_lda ?_); refine ⟨rfl, by kernel_rfl, ?_⟩; refine ⟨_, s_look rfl, ?_⟩; refine ⟨_, rfl, ?_⟩; ((repeat ((fail_if_success refine ⟨_, _, _, .z, ?_⟩); refine hs ?_)); refine ⟨_, _, _, .z, ?_⟩); refine ⟨rfl, ?_⟩; go_frame) | go_big_quiet_step ((first | (with_reducible exact hq_call (rcrowd_v hc _)) | (with_reducible exact hq_call (only_any m _)) | (with_reducible exact hq_call (rsame_v hsa (hRb.rdx _) (hR.rdx _))) | (with_reducible exact hq_call (right_v hri hN (hR.rdx _))) | (with_reducible exact hq_call (rin_v e1 _)) | (with_reducible exact hq_call (rin_v e2 _)))))); (with_reducible refine wpQuiet_nil (hKQ _ ?_)); clear hKQ; clear KQ H; intro w1 H); go_wp2_with (first | (fail))
            ((with_reducible refine wp_region_hpK H (by kernel_rfl) (by kernel_rfl) ?_); intro _ KQ hKQ; (repeat (first | ((with_reducible refine hq_ld ?_); refine ⟨rfl, ?_⟩; refine ⟨c_look rfl, ?_⟩; refine ⟨_, _, rfl, ?_⟩; ((repeat ((fail_if_success refine ⟨_, _, _, .z, ?_⟩); refine hs ?_)); refine ⟨_, _, _, .z, ?_⟩); refine ⟨_, rfl, ?_⟩; go_frame) | go_big_quiet_step ((first | (with_reducible exact hq_call (rcrowd_v hc _)) | (with_reducible exact hq_call (only_any m _)) | (with_reducible exact hq_call (rsame_v hsa (hRb.rdx _) (hR.rdx _))) | (with_reducible exact hq_call (right_v hri hN (hR.rdx _))) | (with_reducible exact hq_call (rin_v e1 _)) | (with_reducible exact hq_call (rin_v e2 _)))))); (with_reducible refine wpQuiet_nil (hKQ _ ?_)); clear hKQ; clear KQ H; intro w1 H)
            go_wp2_with (first | ((with_reducible refine Hp.ld H ?_); refine ⟨rfl, ?_⟩; refine ⟨c_look rfl, ?_⟩; refine ⟨_, _, rfl, ?_⟩; ((repeat ((fail_if_success refine ⟨_, _, _, .z, ?_⟩); refine hs ?_)); refine ⟨_, _, _, .z, ?_⟩); refine ⟨_, rfl, ?_⟩; go_frame) | ((first | (with_reducible refine (rin_v e1 _).mono ?_) | (with_reducible refine (rin_v e2 _).mono ?_) | (with_reducible refine (rin_v e3 _).mono ?_)); rintro _ w1 ⟨rfl, hb⟩; replace H := H.call hb; clear hb))
            go_ret; exact ⟨ret_bool (by rw [rmay_eq, hc, hsa, hri, HE.out]; simp [*]), H.below⟩
    have b1 : (m.k == 1) = false := beq_eq_false_iff_ne.mpr k1
    by_cases k2 : m.k = 2
    · have hE : endsB m n = (inB m.fr 0 (n - 1) && inB m.to (-4) (-1)) := by unfold endsB; rw [if_neg k1, if_pos k2, rep_in, cli_in]
      have HE := Lib.hid hE
      have b2 : (m.k == 2) = true := by rw [k2]; rfl
      clear hE k1 k2 hcr
      cases e1 : inB m.fr 0 (n - 1)
      all_goals
        cases e2 : inB m.to 0 (n - 1)
        all_goals
          cases e3 : inB m.to (-4) (-1)
          all_goals
            have H := Hp.nil w; go_enter Tryd.func15, Tryd.ntmps15; go_wp2_with (first | ((with_reducible refine Hp.box H ?_); (first | refine ⟨rfl, mgC m, rfl, ?_⟩); (clear H; intro g1 w1 H); go_frame)); ((with_reducible refine wp_region_hpK H (by kernel_rfl) (by kernel_rfl) ?_); intro _ KQ hKQ; (repeat (first | ((with_reducible refine hq_lda ?_); refine ⟨rfl, by kernel_rfl, ?_⟩; refine ⟨_, s_look rfl, ?_⟩; refine ⟨_, rfl, ?_⟩; ((repeat ((fail_if_success refine ⟨_, _, _, .z, ?_⟩); refine hs ?_)); refine ⟨_, _, _, .z, ?_⟩); refine ⟨rfl, ?_⟩; go_frame) | go_big_quiet_step ((first | (with_reducible exact hq_call (rcrowd_v hc _)) | (with_reducible exact hq_call (only_any m _)) | (with_reducible exact hq_call (rsame_v hsa (hRb.rdx _) (hR.rdx _))) | (with_reducible exact hq_call (right_v hri hN (hR.rdx _))) | (with_reducible exact hq_call (rin_v e1 _)) | (with_reducible exact hq_call (rin_v e2 _)))))); (with_reducible refine wpQuiet_nil (hKQ _ ?_)); clear hKQ; clear KQ H; intro w1 H); go_wp2_with (first | (fail))
            ((with_reducible refine wp_region_hpK H (by kernel_rfl) (by kernel_rfl) ?_); intro _ KQ hKQ; (repeat (first | ((with_reducible refine hq_ld ?_); refine ⟨rfl, ?_⟩; refine ⟨c_look rfl, ?_⟩; refine ⟨_, _, rfl, ?_⟩; ((repeat ((fail_if_success refine ⟨_, _, _, .z, ?_⟩); refine hs ?_)); refine ⟨_, _, _, .z, ?_⟩); refine ⟨_, rfl, ?_⟩; go_frame) | go_big_quiet_step ((first | (with_reducible exact hq_call (rcrowd_v hc _)) | (with_reducible exact hq_call (only_any m _)) | (with_reducible exact hq_call (rsame_v hsa (hRb.rdx _) (hR.rdx _))) | (with_reducible exact hq_call (right_v hri hN (hR.rdx _))) | (with_reducible exact hq_call (rin_v e1 _)) | (with_reducible exact hq_call (rin_v e2 _)))))); (with_reducible refine wpQuiet_nil (hKQ _ ?_)); clear hKQ; clear KQ H; intro w1 H)
            go_wp2_with (first | ((with_reducible refine Hp.ld H ?_); refine ⟨rfl, ?_⟩; refine ⟨c_look rfl, ?_⟩; refine ⟨_, _, rfl, ?_⟩; ((repeat ((fail_if_success refine ⟨_, _, _, .z, ?_⟩); refine hs ?_)); refine ⟨_, _, _, .z, ?_⟩); refine ⟨_, rfl, ?_⟩; go_frame) | ((first | (with_reducible refine (rin_v e1 _).mono ?_) | (with_reducible refine (rin_v e2 _).mono ?_) | (with_reducible refine (rin_v e3 _).mono ?_)); rintro _ w1 ⟨rfl, hb⟩; replace H := H.call hb; clear hb))
            go_ret; exact ⟨ret_bool (by rw [rmay_eq, hc, hsa, hri, HE.out]; simp [*]), H.below⟩
    have b2 : (m.k == 2) = false := beq_eq_false_iff_ne.mpr k2
    have hE : endsB m n = (inB m.fr 0 (n - 1) && (inB m.to 0 (n - 1) && (m.fr != m.to))) := by unfold endsB; rw [if_neg k1, if_neg k2, rep_in, rep_in]
    have HE := Lib.hid hE
    clear hE k1 k2 hcr
    have e3 := True.intro
    cases e1 : inB m.fr 0 (n - 1)
    all_goals
      cases e2 : inB m.to 0 (n - 1)
      all_goals
        cases e4 : (m.fr != m.to)
        all_goals
          have H := Hp.nil w; go_enter Tryd.func15, Tryd.ntmps15; go_wp2_with (first | ((with_reducible refine Hp.box H ?_); (first | refine ⟨rfl, mgC m, rfl, ?_⟩); (clear H; intro g1 w1 H); go_frame)); ((with_reducible refine wp_region_hpK H (by kernel_rfl) (by kernel_rfl) ?_); intro _ KQ hKQ; (repeat (first | ((with_reducible refine hq_lda ?_); refine ⟨rfl, by kernel_rfl, ?_⟩; refine ⟨_, s_look rfl, ?_⟩; refine ⟨_, rfl, ?_⟩; ((repeat ((fail_if_success refine ⟨_, _, _, .z, ?_⟩); refine hs ?_)); refine ⟨_, _, _, .z, ?_⟩); refine ⟨rfl, ?_⟩; go_frame) | go_big_quiet_step ((first | (with_reducible exact hq_call (rcrowd_v hc _)) | (with_reducible exact hq_call (only_any m _)) | (with_reducible exact hq_call (rsame_v hsa (hRb.rdx _) (hR.rdx _))) | (with_reducible exact hq_call (right_v hri hN (hR.rdx _))) | (with_reducible exact hq_call (rin_v e1 _)) | (with_reducible exact hq_call (rin_v e2 _)))))); (with_reducible refine wpQuiet_nil (hKQ _ ?_)); clear hKQ; clear KQ H; intro w1 H); go_wp2_with (first | (fail))
          ((with_reducible refine wp_region_hpK H (by kernel_rfl) (by kernel_rfl) ?_); intro _ KQ hKQ; (repeat (first | ((with_reducible refine hq_ld ?_); refine ⟨rfl, ?_⟩; refine ⟨c_look rfl, ?_⟩; refine ⟨_, _, rfl, ?_⟩; ((repeat ((fail_if_success refine ⟨_, _, _, .z, ?_⟩); refine hs ?_)); refine ⟨_, _, _, .z, ?_⟩); refine ⟨_, rfl, ?_⟩; go_frame) | go_big_quiet_step ((first | (with_reducible exact hq_call (rcrowd_v hc _)) | (with_reducible exact hq_call (only_any m _)) | (with_reducible exact hq_call (rsame_v hsa (hRb.rdx _) (hR.rdx _))) | (with_reducible exact hq_call (right_v hri hN (hR.rdx _))) | (with_reducible exact hq_call (rin_v e1 _)) | (with_reducible exact hq_call (rin_v e2 _)))))); (with_reducible refine wpQuiet_nil (hKQ _ ?_)); clear hKQ; clear KQ H; intro w1 H)
          go_wp2_with (first | ((with_reducible refine Hp.ld H ?_); refine ⟨rfl, ?_⟩; refine ⟨c_look rfl, ?_⟩; refine ⟨_, _, rfl, ?_⟩; ((repeat ((fail_if_success refine ⟨_, _, _, .z, ?_⟩); refine hs ?_)); refine ⟨_, _, _, .z, ?_⟩); refine ⟨_, rfl, ?_⟩; go_frame))
          go_ret; exact ⟨ret_bool (by rw [rmay_eq, hc, hsa, hri, HE.out]; simp [*]), H.below⟩
theorem rmaym_v {m : Mg} {rs : List Rp} {l : List UInt8} {n : Int} {b : Bool} {w : World} (h : mayM m rs l n = b) (hN : MgN m) (hR : MgR w m rs l) (hn1 : -9223372036854775808 ≤ n) (hn2 : n ≤ 9223372036854775807) :
    Calls Tryd.prog 15 #[.agg (mgC m).toArray, .int .i64 n] w (RetV w (.bool b)) := by
  subst h
  exact rmaym_any m rs l n w hN hR hn1 hn2
end Go.Proofs.YtajgikjmoeemnaaDoor
