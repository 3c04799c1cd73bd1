/-
  THE WALK OF THE LAW MessageMore.
-/
import Derived.Test.YtajgikjmoeemnaaDoorMsgHa
import Derived.Test.YtajgikjmoeemnaaDoorMsp
import Derived.Test.YtajgikjmoeemnaaDoorFlw
namespace Go.Proofs.YtajgikjmoeemnaaDoor
set_option maxRecDepth 100000
open Go.RowKit
set_option linter.unusedVariables false
set_option linter.unusedSimpArgs false
section
variable {n n' : Int} {m : Mg} {rs : List Rp} {l : List UInt8}
theorem bal_more {r p : Int} (h : balM r p n = true) (hn : n ≤ n') (hc : crowdB n' = true) : balM r p n' = true := by
  simp only [balM, Bool.and_eq_true, decide_eq_true_eq] at h ⊢
  exact ⟨hc, h.2.1, h.2.2.1, h.2.2.2.1, by omega⟩
theorem rep_more {x : Rp} (h : repB x n = true) (hn : n ≤ n') (hc : crowdB n' = true) : repB x n' = true := by
  simp only [repB, Bool.and_eq_true, Bool.or_eq_true] at h ⊢
  refine ⟨h.1, ?_⟩
  rcases h.2 with h | h | h
  · exact .inl ⟨h.1, bal_more h.2.1 hn hc, h.2.2⟩
  · exact .inr (.inl ⟨h.1, bal_more h.2.1 hn hc, h.2.2⟩)
  · exact .inr (.inr h)
theorem repsOk_more (hn : n ≤ n') (hc : crowdB n' = true) : ∀ (b : Int) (rs : List Rp), repsOk b rs n = true → repsOk b rs n' = true
  | b, [], _ => rfl
  | b, x :: l, h => by
    simp only [repsOk, Bool.and_eq_true] at h ⊢
    exact ⟨⟨rep_more h.1.1 hn hc, h.1.2⟩, repsOk_more hn hc x.ix l h.2⟩
theorem keep_more {c : Nat} (h : keepB c m rs n = true) (hn : n ≤ n') (hc : crowdB n' = true) : keepB c m rs n' = true := by
  by_cases a1 : c = 98
  · subst a1
    exact bal_more (show balM m.br m.bp n = true from h) hn hc
  by_cases a2 : c = 108
  · subst a2
    have h1 : repsB rs n = true := h
    show repsB rs n' = true
    simp only [repsB, Bool.and_eq_true] at h1 ⊢
    exact ⟨repsOk_more hn hc 0 rs h1.1, h1.2⟩
  have e : keepB c m rs n' = keepB c m rs n := by unfold keepB; simp only [if_neg a1, if_neg a2]
  rw [e]; exact h
theorem ends_more (h : endsB m n = true) (hn : n ≤ n') : endsB m n' = true := by
  unfold endsB at h ⊢
  split
  · rename_i a1
    rw [if_pos a1] at h
    simp only [cliIx, repIx, Bool.and_eq_true, decide_eq_true_eq] at h ⊢
    omega
  · rename_i a1
    rw [if_neg a1] at h
    split
    · rename_i a2
      rw [if_pos a2] at h
      simp only [cliIx, repIx, Bool.and_eq_true, decide_eq_true_eq] at h ⊢
      omega
    · rename_i a2
      rw [if_neg a2] at h
      simp only [cliIx, repIx, Bool.and_eq_true, decide_eq_true_eq] at h ⊢
      exact ⟨⟨h.1.1, by omega⟩, ⟨h.2.1.1, by omega⟩, h.2.2⟩
theorem may_more (h : mayM m rs l n = true) (hn : n ≤ n') (hc : crowdB n' = true) : mayM m rs l n' = true := by
  obtain ⟨h1, h2, h3, h4, h5⟩ := may_parts h
  have h6 : (lets m.k).all (fun c => keepB c.toNat m rs n') = true := List.all_eq_true.2 fun c hc' => keep_more (h4 c hc') hn hc
  unfold mayM
  rw [h1, hc, ends_more h3 hn, h5, h6]
  rfl
theorem may_crowd (h : crowdB n = false) : mayM m rs l n = false := by unfold mayM; rw [h]; simp
theorem print_of (h : mayM m rs l n = true) : printL m rs l n = prL m rs l ∧ printE m rs l n = 0 := by unfold printL printE; rw [if_pos h, if_pos h]; exact ⟨rfl, rfl⟩
end
set_option maxRecDepth 100000 in
set_option maxHeartbeats 8000000 in
theorem messageMore_walk (m : Mg) (rs : List Rp) (l : List UInt8) (n more : Int) (w : World) (hF : FldW w) (hN : MgN m) (hR : MgR w m rs l) (b0 : -9223372036854775808 ≤ n) (b1 : n ≤ 9223372036854775807) (b2 : -9223372036854775808 ≤ more) (b3 : more ≤ 9223372036854775807) :
    Calls Tryd.prog 8 #[.agg (mgC m).toArray, .int .i64 n, .int .i64 more] w (RetV w (.bool true)) := by
  have H := Hp.nil w
  cases hg : grM m rs
  rotate_left
  · have hm := True.intro
    (have HP1 := True.intro; have HE1 := True.intro; have HP2 := True.intro; have HE2 := True.intro; have hm2 := True.intro; have P := True.intro)
    (go_enter Tryd.func8, Tryd.ntmps8; go_wp2_with (first | ((with_reducible refine Hp.box H ?_); (first | refine ⟨rfl, mgC m, rfl, ?_⟩); (clear H; intro gm w1 H); go_frame) | ((with_reducible refine Hp.lda H ?_); refine ⟨rfl, by kernel_rfl, ?_⟩; refine ⟨_, s_look rfl, ?_⟩; refine ⟨_, rfl, ?_⟩; ((repeat ((fail_if_success refine ⟨_, _, _, .z, ?_⟩); refine hs ?_)); refine ⟨_, _, _, .z, ?_⟩); refine ⟨rfl, ?_⟩; go_frame) | ((with_reducible refine Hp.lds H ?_); refine ⟨rfl, by kernel_rfl, ?_⟩; refine ⟨_, s_look rfl, ?_⟩; refine ⟨_, _, rfl, ?_⟩; ((repeat ((fail_if_success refine ⟨_, _, _, .z, ?_⟩); refine hs ?_)); refine ⟨_, _, _, .z, ?_⟩); (first | refine ⟨[_, _], rfl, rfl, ?_⟩ | refine ⟨[_, _, _, _], rfl, rfl, ?_⟩ | refine ⟨[_, _, _, _, _, _, _], rfl, rfl, ?_⟩ | refine ⟨[_, _, _], rfl, rfl, ?_⟩ | (fail)); go_frame) | ((with_reducible refine (awake_any _ (hF.below H.below)).mono ?_); rintro _ w1 ⟨rfl, hb⟩; replace H := H.call hb; clear hb) | ((with_reducible refine (great_w hg (hR.below H.below)).mono ?_); rintro _ w1 ⟨rfl, hb⟩; replace H := H.call hb; clear hb) | ((with_reducible refine (may_v hm (hF.below H.below) hN (hR.below H.below)).mono ?_); rintro _ w1 ⟨rfl, hb⟩; replace H := H.call hb; clear hb) | ((with_reducible refine (may_v hm2 (hF.below H.below) hN (hR.below H.below)).mono ?_); rintro _ w1 ⟨rfl, hb⟩; replace H := H.call hb; clear hb) | ((with_reducible refine (print_w HP1.out HE1.out (hF.below H.below) hN (hR.below H.below)).mono ?_); rintro _ w1 ⟨Ao, co, rfl, hown, hb⟩; replace H := H.callOwn hb hown; clear hb hown) | ((with_reducible refine (print_w HP2.out HE2.out (hF.below H.below) hN (hR.below H.below)).mono ?_); rintro _ w1 ⟨Ao, co, rfl, hown, hb⟩; replace H := H.callOwn hb hown; clear hb hown) | ((with_reducible refine Hp.cvS H ?_); refine ⟨rfl, _, _, _, rfl, P, (H.o 0 rfl).rd, rfl, ?_⟩; go_frame) | ((with_reducible refine Hp.cvS H ?_); refine ⟨rfl, _, _, _, rfl, P, (H.o 1 rfl).rd, rfl, ?_⟩; go_frame)); go_ret; exact ⟨rfl, H.below⟩)
  by_cases hc : n = 3 ∨ n = 5 ∨ n = 7
  rotate_left
  · have hm : mayM m rs l n = false := may_crowd (by simp only [crowdB, Bool.or_eq_false_iff, beq_eq_false_iff_ne]; omega)
    have e3 : (n != 3) = true := by simp only [bne_iff_ne]; omega
    have e5 : (n != 5) = true := by simp only [bne_iff_ne]; omega
    have e7 : (n != 7) = true := by simp only [bne_iff_ne]; omega
    clear hc
    (have HP1 := True.intro; have HE1 := True.intro; have HP2 := True.intro; have HE2 := True.intro; have hm2 := True.intro; have P := True.intro)
    (go_enter Tryd.func8, Tryd.ntmps8; go_wp2_with (first | ((with_reducible refine Hp.box H ?_); (first | refine ⟨rfl, mgC m, rfl, ?_⟩); (clear H; intro gm w1 H); go_frame) | ((with_reducible refine Hp.lda H ?_); refine ⟨rfl, by kernel_rfl, ?_⟩; refine ⟨_, s_look rfl, ?_⟩; refine ⟨_, rfl, ?_⟩; ((repeat ((fail_if_success refine ⟨_, _, _, .z, ?_⟩); refine hs ?_)); refine ⟨_, _, _, .z, ?_⟩); refine ⟨rfl, ?_⟩; go_frame) | ((with_reducible refine Hp.lds H ?_); refine ⟨rfl, by kernel_rfl, ?_⟩; refine ⟨_, s_look rfl, ?_⟩; refine ⟨_, _, rfl, ?_⟩; ((repeat ((fail_if_success refine ⟨_, _, _, .z, ?_⟩); refine hs ?_)); refine ⟨_, _, _, .z, ?_⟩); (first | refine ⟨[_, _], rfl, rfl, ?_⟩ | refine ⟨[_, _, _, _], rfl, rfl, ?_⟩ | refine ⟨[_, _, _, _, _, _, _], rfl, rfl, ?_⟩ | refine ⟨[_, _, _], rfl, rfl, ?_⟩ | (fail)); go_frame) | ((with_reducible refine (awake_any _ (hF.below H.below)).mono ?_); rintro _ w1 ⟨rfl, hb⟩; replace H := H.call hb; clear hb) | ((with_reducible refine (great_w hg (hR.below H.below)).mono ?_); rintro _ w1 ⟨rfl, hb⟩; replace H := H.call hb; clear hb) | ((with_reducible refine (may_v hm (hF.below H.below) hN (hR.below H.below)).mono ?_); rintro _ w1 ⟨rfl, hb⟩; replace H := H.call hb; clear hb) | ((with_reducible refine (may_v hm2 (hF.below H.below) hN (hR.below H.below)).mono ?_); rintro _ w1 ⟨rfl, hb⟩; replace H := H.call hb; clear hb) | ((with_reducible refine (print_w HP1.out HE1.out (hF.below H.below) hN (hR.below H.below)).mono ?_); rintro _ w1 ⟨Ao, co, rfl, hown, hb⟩; replace H := H.callOwn hb hown; clear hb hown) | ((with_reducible refine (print_w HP2.out HE2.out (hF.below H.below) hN (hR.below H.below)).mono ?_); rintro _ w1 ⟨Ao, co, rfl, hown, hb⟩; replace H := H.callOwn hb hown; clear hb hown) | ((with_reducible refine Hp.cvS H ?_); refine ⟨rfl, _, _, _, rfl, P, (H.o 0 rfl).rd, rfl, ?_⟩; go_frame) | ((with_reducible refine Hp.cvS H ?_); refine ⟨rfl, _, _, _, rfl, P, (H.o 1 rfl).rd, rfl, ?_⟩; go_frame)); go_ret; exact ⟨rfl, H.below⟩)
  cases hm : mayM m rs l n
  · rcases hc with rfl | rfl | rfl
    all_goals
      (have HP1 := True.intro; have HE1 := True.intro; have HP2 := True.intro; have HE2 := True.intro; have hm2 := True.intro; have P := True.intro)
      (go_enter Tryd.func8, Tryd.ntmps8; go_wp2_with (first | ((with_reducible refine Hp.box H ?_); (first | refine ⟨rfl, mgC m, rfl, ?_⟩); (clear H; intro gm w1 H); go_frame) | ((with_reducible refine Hp.lda H ?_); refine ⟨rfl, by kernel_rfl, ?_⟩; refine ⟨_, s_look rfl, ?_⟩; refine ⟨_, rfl, ?_⟩; ((repeat ((fail_if_success refine ⟨_, _, _, .z, ?_⟩); refine hs ?_)); refine ⟨_, _, _, .z, ?_⟩); refine ⟨rfl, ?_⟩; go_frame) | ((with_reducible refine Hp.lds H ?_); refine ⟨rfl, by kernel_rfl, ?_⟩; refine ⟨_, s_look rfl, ?_⟩; refine ⟨_, _, rfl, ?_⟩; ((repeat ((fail_if_success refine ⟨_, _, _, .z, ?_⟩); refine hs ?_)); refine ⟨_, _, _, .z, ?_⟩); (first | refine ⟨[_, _], rfl, rfl, ?_⟩ | refine ⟨[_, _, _, _], rfl, rfl, ?_⟩ | refine ⟨[_, _, _, _, _, _, _], rfl, rfl, ?_⟩ | refine ⟨[_, _, _], rfl, rfl, ?_⟩ | (fail)); go_frame) | ((with_reducible refine (awake_any _ (hF.below H.below)).mono ?_); rintro _ w1 ⟨rfl, hb⟩; replace H := H.call hb; clear hb) | ((with_reducible refine (great_w hg (hR.below H.below)).mono ?_); rintro _ w1 ⟨rfl, hb⟩; replace H := H.call hb; clear hb) | ((with_reducible refine (may_v hm (hF.below H.below) hN (hR.below H.below)).mono ?_); rintro _ w1 ⟨rfl, hb⟩; replace H := H.call hb; clear hb) | ((with_reducible refine (may_v hm2 (hF.below H.below) hN (hR.below H.below)).mono ?_); rintro _ w1 ⟨rfl, hb⟩; replace H := H.call hb; clear hb) | ((with_reducible refine (print_w HP1.out HE1.out (hF.below H.below) hN (hR.below H.below)).mono ?_); rintro _ w1 ⟨Ao, co, rfl, hown, hb⟩; replace H := H.callOwn hb hown; clear hb hown) | ((with_reducible refine (print_w HP2.out HE2.out (hF.below H.below) hN (hR.below H.below)).mono ?_); rintro _ w1 ⟨Ao, co, rfl, hown, hb⟩; replace H := H.callOwn hb hown; clear hb hown) | ((with_reducible refine Hp.cvS H ?_); refine ⟨rfl, _, _, _, rfl, P, (H.o 0 rfl).rd, rfl, ?_⟩; go_frame) | ((with_reducible refine Hp.cvS H ?_); refine ⟨rfl, _, _, _, rfl, P, (H.o 1 rfl).rd, rfl, ?_⟩; go_frame)); go_ret; exact ⟨rfl, H.below⟩)
  by_cases hl : more < n
  · have d : decide (more < n) = true := decide_eq_true hl
    clear hl
    rcases hc with rfl | rfl | rfl
    all_goals
      (have HP1 := True.intro; have HE1 := True.intro; have HP2 := True.intro; have HE2 := True.intro; have hm2 := True.intro; have P := True.intro)
      (go_enter Tryd.func8, Tryd.ntmps8; go_wp2_with (first | ((with_reducible refine Hp.box H ?_); (first | refine ⟨rfl, mgC m, rfl, ?_⟩); (clear H; intro gm w1 H); go_frame) | ((with_reducible refine Hp.lda H ?_); refine ⟨rfl, by kernel_rfl, ?_⟩; refine ⟨_, s_look rfl, ?_⟩; refine ⟨_, rfl, ?_⟩; ((repeat ((fail_if_success refine ⟨_, _, _, .z, ?_⟩); refine hs ?_)); refine ⟨_, _, _, .z, ?_⟩); refine ⟨rfl, ?_⟩; go_frame) | ((with_reducible refine Hp.lds H ?_); refine ⟨rfl, by kernel_rfl, ?_⟩; refine ⟨_, s_look rfl, ?_⟩; refine ⟨_, _, rfl, ?_⟩; ((repeat ((fail_if_success refine ⟨_, _, _, .z, ?_⟩); refine hs ?_)); refine ⟨_, _, _, .z, ?_⟩); (first | refine ⟨[_, _], rfl, rfl, ?_⟩ | refine ⟨[_, _, _, _], rfl, rfl, ?_⟩ | refine ⟨[_, _, _, _, _, _, _], rfl, rfl, ?_⟩ | refine ⟨[_, _, _], rfl, rfl, ?_⟩ | (fail)); go_frame) | ((with_reducible refine (awake_any _ (hF.below H.below)).mono ?_); rintro _ w1 ⟨rfl, hb⟩; replace H := H.call hb; clear hb) | ((with_reducible refine (great_w hg (hR.below H.below)).mono ?_); rintro _ w1 ⟨rfl, hb⟩; replace H := H.call hb; clear hb) | ((with_reducible refine (may_v hm (hF.below H.below) hN (hR.below H.below)).mono ?_); rintro _ w1 ⟨rfl, hb⟩; replace H := H.call hb; clear hb) | ((with_reducible refine (may_v hm2 (hF.below H.below) hN (hR.below H.below)).mono ?_); rintro _ w1 ⟨rfl, hb⟩; replace H := H.call hb; clear hb) | ((with_reducible refine (print_w HP1.out HE1.out (hF.below H.below) hN (hR.below H.below)).mono ?_); rintro _ w1 ⟨Ao, co, rfl, hown, hb⟩; replace H := H.callOwn hb hown; clear hb hown) | ((with_reducible refine (print_w HP2.out HE2.out (hF.below H.below) hN (hR.below H.below)).mono ?_); rintro _ w1 ⟨Ao, co, rfl, hown, hb⟩; replace H := H.callOwn hb hown; clear hb hown) | ((with_reducible refine Hp.cvS H ?_); refine ⟨rfl, _, _, _, rfl, P, (H.o 0 rfl).rd, rfl, ?_⟩; go_frame) | ((with_reducible refine Hp.cvS H ?_); refine ⟨rfl, _, _, _, rfl, P, (H.o 1 rfl).rd, rfl, ?_⟩; go_frame)); go_ret; exact ⟨rfl, H.below⟩)
  by_cases hc2 : more = 3 ∨ more = 5 ∨ more = 7
  rotate_left
  · have d : decide (more < n) = false := decide_eq_false hl
    have e3 : (more != 3) = true := by simp only [bne_iff_ne]; omega
    have e5 : (more != 5) = true := by simp only [bne_iff_ne]; omega
    have e7 : (more != 7) = true := by simp only [bne_iff_ne]; omega
    clear hl hc2
    rcases hc with rfl | rfl | rfl
    all_goals
      (have HP1 := True.intro; have HE1 := True.intro; have HP2 := True.intro; have HE2 := True.intro; have hm2 := True.intro; have P := True.intro)
      (go_enter Tryd.func8, Tryd.ntmps8; go_wp2_with (first | ((with_reducible refine Hp.box H ?_); (first | refine ⟨rfl, mgC m, rfl, ?_⟩); (clear H; intro gm w1 H); go_frame) | ((with_reducible refine Hp.lda H ?_); refine ⟨rfl, by kernel_rfl, ?_⟩; refine ⟨_, s_look rfl, ?_⟩; refine ⟨_, rfl, ?_⟩; ((repeat ((fail_if_success refine ⟨_, _, _, .z, ?_⟩); refine hs ?_)); refine ⟨_, _, _, .z, ?_⟩); refine ⟨rfl, ?_⟩; go_frame) | ((with_reducible refine Hp.lds H ?_); refine ⟨rfl, by kernel_rfl, ?_⟩; refine ⟨_, s_look rfl, ?_⟩; refine ⟨_, _, rfl, ?_⟩; ((repeat ((fail_if_success refine ⟨_, _, _, .z, ?_⟩); refine hs ?_)); refine ⟨_, _, _, .z, ?_⟩); (first | refine ⟨[_, _], rfl, rfl, ?_⟩ | refine ⟨[_, _, _, _], rfl, rfl, ?_⟩ | refine ⟨[_, _, _, _, _, _, _], rfl, rfl, ?_⟩ | refine ⟨[_, _, _], rfl, rfl, ?_⟩ | (fail)); go_frame) | ((with_reducible refine (awake_any _ (hF.below H.below)).mono ?_); rintro _ w1 ⟨rfl, hb⟩; replace H := H.call hb; clear hb) | ((with_reducible refine (great_w hg (hR.below H.below)).mono ?_); rintro _ w1 ⟨rfl, hb⟩; replace H := H.call hb; clear hb) | ((with_reducible refine (may_v hm (hF.below H.below) hN (hR.below H.below)).mono ?_); rintro _ w1 ⟨rfl, hb⟩; replace H := H.call hb; clear hb) | ((with_reducible refine (may_v hm2 (hF.below H.below) hN (hR.below H.below)).mono ?_); rintro _ w1 ⟨rfl, hb⟩; replace H := H.call hb; clear hb) | ((with_reducible refine (print_w HP1.out HE1.out (hF.below H.below) hN (hR.below H.below)).mono ?_); rintro _ w1 ⟨Ao, co, rfl, hown, hb⟩; replace H := H.callOwn hb hown; clear hb hown) | ((with_reducible refine (print_w HP2.out HE2.out (hF.below H.below) hN (hR.below H.below)).mono ?_); rintro _ w1 ⟨Ao, co, rfl, hown, hb⟩; replace H := H.callOwn hb hown; clear hb hown) | ((with_reducible refine Hp.cvS H ?_); refine ⟨rfl, _, _, _, rfl, P, (H.o 0 rfl).rd, rfl, ?_⟩; go_frame) | ((with_reducible refine Hp.cvS H ?_); refine ⟨rfl, _, _, _, rfl, P, (H.o 1 rfl).rd, rfl, ?_⟩; go_frame)); go_ret; exact ⟨rfl, H.below⟩)
  have hcr : crowdB more = true := by simp only [crowdB, Bool.or_eq_true, beq_iff_eq]; exact hc2
  have hm2 := may_more hm (by omega : n ≤ more) hcr
  obtain ⟨p1, p2⟩ := print_of hm
  obtain ⟨p3, p4⟩ := print_of hm2
  obtain ⟨P, hP⟩ : ∃ P, prL m rs l = P := ⟨_, rfl⟩
  rw [hP] at p1 p3
  have HP1 := Lib.hid p1
  have HE1 := Lib.hid p2
  have HP2 := Lib.hid p3
  have HE2 := Lib.hid p4
  clear p1 p2 p3 p4 hP hcr
  rcases hc with rfl | rfl | rfl
  all_goals
    rcases hc2 with rfl | rfl | rfl
    all_goals
      first
      | (exfalso; clear HP1 HE1 HP2 HE2 hm hm2 H; omega)
      | (clear hl; (go_enter Tryd.func8, Tryd.ntmps8; go_wp2_with (first | ((with_reducible refine Hp.box H ?_); (first | refine ⟨rfl, mgC m, rfl, ?_⟩); (clear H; intro gm w1 H); go_frame) | ((with_reducible refine Hp.lda H ?_); refine ⟨rfl, by kernel_rfl, ?_⟩; refine ⟨_, s_look rfl, ?_⟩; refine ⟨_, rfl, ?_⟩; ((repeat ((fail_if_success refine ⟨_, _, _, .z, ?_⟩); refine hs ?_)); refine ⟨_, _, _, .z, ?_⟩); refine ⟨rfl, ?_⟩; go_frame) | ((with_reducible refine Hp.lds H ?_); refine ⟨rfl, by kernel_rfl, ?_⟩; refine ⟨_, s_look rfl, ?_⟩; refine ⟨_, _, rfl, ?_⟩; ((repeat ((fail_if_success refine ⟨_, _, _, .z, ?_⟩); refine hs ?_)); refine ⟨_, _, _, .z, ?_⟩); (first | refine ⟨[_, _], rfl, rfl, ?_⟩ | refine ⟨[_, _, _, _], rfl, rfl, ?_⟩ | refine ⟨[_, _, _, _, _, _, _], rfl, rfl, ?_⟩ | refine ⟨[_, _, _], rfl, rfl, ?_⟩ | (fail)); go_frame) | ((with_reducible refine (awake_any _ (hF.below H.below)).mono ?_); rintro _ w1 ⟨rfl, hb⟩; replace H := H.call hb; clear hb) | ((with_reducible refine (great_w hg (hR.below H.below)).mono ?_); rintro _ w1 ⟨rfl, hb⟩; replace H := H.call hb; clear hb) | ((with_reducible refine (may_v hm (hF.below H.below) hN (hR.below H.below)).mono ?_); rintro _ w1 ⟨rfl, hb⟩; replace H := H.call hb; clear hb) | ((with_reducible refine (may_v hm2 (hF.below H.below) hN (hR.below H.below)).mono ?_); rintro _ w1 ⟨rfl, hb⟩; replace H := H.call hb; clear hb) | ((with_reducible refine (print_w HP1.out HE1.out (hF.below H.below) hN (hR.below H.below)).mono ?_); rintro _ w1 ⟨Ao, co, rfl, hown, hb⟩; replace H := H.callOwn hb hown; clear hb hown) | ((with_reducible refine (print_w HP2.out HE2.out (hF.below H.below) hN (hR.below H.below)).mono ?_); rintro _ w1 ⟨Ao, co, rfl, hown, hb⟩; replace H := H.callOwn hb hown; clear hb hown) | ((with_reducible refine Hp.cvS H ?_); refine ⟨rfl, _, _, _, rfl, P, (H.o 0 rfl).rd, rfl, ?_⟩; go_frame) | ((with_reducible refine Hp.cvS H ?_); refine ⟨rfl, _, _, _, rfl, P, (H.o 1 rfl).rd, rfl, ?_⟩; go_frame)); go_ret; exact ⟨rfl, H.below⟩))
end Go.Proofs.YtajgikjmoeemnaaDoor
