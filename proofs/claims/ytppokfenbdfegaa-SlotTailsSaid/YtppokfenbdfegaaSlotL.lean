/-
  THE WALK OF THE LAW SlotWhere.
-/
import Derived.Test.YtppokfenbdfegaaSlotJ
namespace Go.Proofs.Ytppokfenbdfegaa
open Go.RowKit
set_option linter.unusedVariables false
set_option linter.unusedSimpArgs false

theorem bestOf_a {f g : SCp} {i lr lp a b : Int} (hab : a ≠ b) (ha : a ≠ -1) (h : bestOf f g i lr lp a b = a) : ofB f i = true := by
  unfold bestOf at h
  split at h
  · rename_i h1
    simp only [candB, Bool.and_eq_true] at h1
    exact h1.1
  · split at h
    · exact absurd h.symm hab
    · exact absurd h.symm ha
theorem bestOf_b {f g : SCp} {i lr lp a b : Int} (hab : a ≠ b) (hb : b ≠ -1) (h : bestOf f g i lr lp a b = b) : ofB g i = true := by
  unfold bestOf at h
  split at h
  · split at h
    · rename_i h1
      simp only [candB, Bool.and_eq_true] at h1
      exact h1.1.1
    · exact absurd h hab
  · split at h
    · rename_i h1
      simp only [candB, Bool.and_eq_true] at h1
      exact h1.1
    · exact absurd h.symm hb
theorem int_0 {x : SPair} (h : intI x = 0) : ofB x.f0 x.i = true := by
  unfold intI at h
  split at h
  · split at h
    · exact bestOf_a (by decide) (by decide) h
    · exact bestOf_b (by decide) (by decide) h
  · split at h
    · cases h
    · exact bestOf_a (by decide) (by decide) h
theorem int_1 {x : SPair} (h : intI x = 1) : ofB x.f1 x.i = true := by
  unfold intI at h
  split at h
  · split at h
    · exact bestOf_b (by decide) (by decide) h
    · exact bestOf_a (by decide) (by decide) h
  · split at h
    · cases h
    · exact bestOf_b (by decide) (by decide) h
theorem next_bd (x : SPair) (hw : x.p.wh = 0 ∨ x.p.wh = 1) : nextI x = 0 ∨ nextI x = 1 := by
  have := int_bd x
  unfold nextI
  split
  · omega
  · split <;> omega
theorem great_wh {p : SRec} {a b : SCp} (h : greatB p a b = false) : p.wh = 0 ∨ p.wh = 1 := by
  unfold greatB at h
  simp only [Bool.or_eq_false_iff, decide_eq_false_iff_not] at h
  omega
theorem slotWhere_great (p : SRec) (f0 f1 : SCp) (i : Int) (w : World) (hG : greatB p f0 f1 = true) : Calls Try.prog 5 #[.agg (recC p).toArray, .agg (copiesC f0 f1).toArray, .int .i64 i] w (RetV w (.bool true)) := by
  have H := Hp.nil w
  go_enter Try.func5, Try.ntmps5
  go_wp2_with (first | ((with_reducible refine Hp.box H ?_); refine ⟨rfl, _, rfl, ?_⟩; (clear H; intro g1 w1 H); go_frame) | ((with_reducible refine Hp.allo H ?_); refine ⟨rfl, ?_⟩; refine ⟨_, z_look rfl, ?_⟩; (clear H; intro g1 w1 H); go_frame) | ((with_reducible refine Hp.ld H ?_); refine ⟨rfl, ?_⟩; refine ⟨c_look rfl, ?_⟩; refine ⟨_, _, rfl, ?_⟩; ((repeat ((fail_if_success refine ⟨_, _, _, .z, ?_⟩); refine hs ?_)); refine ⟨_, _, _, .z, ?_⟩); refine ⟨_, rfl, ?_⟩; go_frame) | ((with_reducible refine Hp.lda H ?_); refine ⟨rfl, by kernel_rfl, ?_⟩; refine ⟨_, s_look rfl, ?_⟩; refine ⟨_, rfl, ?_⟩; ((repeat ((fail_if_success refine ⟨_, _, _, .z, ?_⟩); refine hs ?_)); refine ⟨_, _, _, .z, ?_⟩); refine ⟨rfl, ?_⟩; go_frame) | ((with_reducible refine Hp.lds H ?_); refine ⟨rfl, by kernel_rfl, ?_⟩; refine ⟨_, s_look rfl, ?_⟩; refine ⟨_, _, rfl, ?_⟩; ((repeat ((fail_if_success refine ⟨_, _, _, .z, ?_⟩); refine hs ?_)); refine ⟨_, _, _, .z, ?_⟩); (first | refine ⟨[_, _], rfl, rfl, ?_⟩ | refine ⟨[_, _, _, _], rfl, rfl, ?_⟩ | refine ⟨[_, _, _, _, _, _, _], rfl, rfl, ?_⟩ | refine ⟨[_, _, _], rfl, rfl, ?_⟩ | (fail)); go_frame) | ((with_reducible refine Hp.sto H ?_); refine ⟨rfl, ?_⟩; refine ⟨c_look rfl, ?_⟩; refine ⟨_, _, rfl, ?_⟩; ((repeat ((fail_if_success refine ⟨_, _, _, .z, ?_⟩); refine hs ?_)); refine ⟨_, _, _, .z, ?_⟩); refine ⟨⟨_, rfl⟩, rfl, ?_⟩; (clear H; intro w1 H; simp only [List.set] at H); go_frame) | ((with_reducible refine Hp.sta H ?_); refine ⟨rfl, ?_⟩; refine ⟨_, s_look rfl, ?_⟩; refine ⟨_, rfl, _, rfl, rfl, ?_⟩; ((repeat ((fail_if_success refine ⟨_, _, _, .z, ?_⟩); refine hs ?_)); refine ⟨_, _, _, .z, ?_⟩); refine ⟨rfl, rfl, ?_⟩; (clear H; intro w1 H; simp only [List.set] at H); go_frame) | ((with_reducible refine Hp.str H ?_); refine ⟨rfl, ?_⟩; refine ⟨_, s_look rfl, ?_⟩; refine ⟨_, _, rfl, _, rfl, rfl, ?_⟩; ((repeat ((fail_if_success refine ⟨_, _, _, .z, ?_⟩); refine hs ?_)); refine ⟨_, _, _, .z, ?_⟩); refine ⟨rfl, _, rfl, _, rfl, Nat.le_of_ble_eq_true rfl, ?_⟩; (clear H; intro w1 H; simp only [List.set] at H); go_frame) | ((with_reducible refine Hp.bdl H ?_); (fail); go_frame) | ((with_reducible refine (awake_any _).mono ?_); rintro _ w1 ⟨rfl, hb⟩; replace H := H.call hb; clear hb) | ((with_reducible refine (callsB (great_any _ _ _ _) hG).mono ?_); rintro _ w1 ⟨rfl, hb⟩; replace H := H.call hb; clear hb))
  go_ret
  exact ⟨rfl, H.below⟩
set_option maxHeartbeats 1000000 in
theorem slotWhere_0 (p : SRec) (f0 f1 : SCp) (i : Int) (w : World) (hG : greatB p f0 f1 = false) (hw : p.wh = 0 ∨ p.wh = 1) (hK : intI ⟨p, f0, f1, i⟩ = 0) : Calls Try.prog 5 #[.agg (recC p).toArray, .agg (copiesC f0 f1).toArray, .int .i64 i] w (RetV w (.bool true)) := by
  have hwhat := what_0 p f0 f1 i hw (hK := hK)
  have hN : nextI ⟨p, f0, f1, i⟩ = 1 := by unfold nextI; rw [hK]; rfl
  have ho := int_0 hK
  have h1 : (f0.st == 1) = true := by simp only [ofB, Bool.and_eq_true] at ho; exact ho.1
  have h2 : (f0.ix == i) = true := by simp only [ofB, Bool.and_eq_true] at ho; exact ho.2
  clear ho
  have H := Hp.nil w
  go_enter Try.func5, Try.ntmps5
  go_wp2_with (first | ((with_reducible refine Hp.box H ?_); refine ⟨rfl, _, rfl, ?_⟩; (clear H; intro g1 w1 H); go_frame) | ((with_reducible refine Hp.allo H ?_); refine ⟨rfl, ?_⟩; refine ⟨_, z_look rfl, ?_⟩; (clear H; intro g1 w1 H); go_frame) | ((with_reducible refine Hp.ld H ?_); refine ⟨rfl, ?_⟩; refine ⟨c_look rfl, ?_⟩; refine ⟨_, _, rfl, ?_⟩; ((repeat ((fail_if_success refine ⟨_, _, _, .z, ?_⟩); refine hs ?_)); refine ⟨_, _, _, .z, ?_⟩); refine ⟨_, rfl, ?_⟩; go_frame) | ((with_reducible refine Hp.lda H ?_); refine ⟨rfl, by kernel_rfl, ?_⟩; refine ⟨_, s_look rfl, ?_⟩; refine ⟨_, rfl, ?_⟩; ((repeat ((fail_if_success refine ⟨_, _, _, .z, ?_⟩); refine hs ?_)); refine ⟨_, _, _, .z, ?_⟩); refine ⟨rfl, ?_⟩; go_frame) | ((with_reducible refine Hp.lds H ?_); refine ⟨rfl, by kernel_rfl, ?_⟩; refine ⟨_, s_look rfl, ?_⟩; refine ⟨_, _, rfl, ?_⟩; ((repeat ((fail_if_success refine ⟨_, _, _, .z, ?_⟩); refine hs ?_)); refine ⟨_, _, _, .z, ?_⟩); (first | refine ⟨[_, _], rfl, rfl, ?_⟩ | refine ⟨[_, _, _, _], rfl, rfl, ?_⟩ | refine ⟨[_, _, _, _, _, _, _], rfl, rfl, ?_⟩ | refine ⟨[_, _, _], rfl, rfl, ?_⟩ | (fail)); go_frame) | ((with_reducible refine Hp.sto H ?_); refine ⟨rfl, ?_⟩; refine ⟨c_look rfl, ?_⟩; refine ⟨_, _, rfl, ?_⟩; ((repeat ((fail_if_success refine ⟨_, _, _, .z, ?_⟩); refine hs ?_)); refine ⟨_, _, _, .z, ?_⟩); refine ⟨⟨_, rfl⟩, rfl, ?_⟩; (clear H; intro w1 H; simp only [List.set] at H); go_frame) | ((with_reducible refine Hp.sta H ?_); refine ⟨rfl, ?_⟩; refine ⟨_, s_look rfl, ?_⟩; refine ⟨_, rfl, _, rfl, rfl, ?_⟩; ((repeat ((fail_if_success refine ⟨_, _, _, .z, ?_⟩); refine hs ?_)); refine ⟨_, _, _, .z, ?_⟩); refine ⟨rfl, rfl, ?_⟩; (clear H; intro w1 H; simp only [List.set] at H); go_frame) | ((with_reducible refine Hp.str H ?_); refine ⟨rfl, ?_⟩; refine ⟨_, s_look rfl, ?_⟩; refine ⟨_, _, rfl, _, rfl, rfl, ?_⟩; ((repeat ((fail_if_success refine ⟨_, _, _, .z, ?_⟩); refine hs ?_)); refine ⟨_, _, _, .z, ?_⟩); refine ⟨rfl, _, rfl, _, rfl, Nat.le_of_ble_eq_true rfl, ?_⟩; (clear H; intro w1 H; simp only [List.set] at H); go_frame) | ((with_reducible refine Hp.bdl H ?_); (fail); go_frame) | ((with_reducible refine (awake_any _).mono ?_); rintro _ w1 ⟨rfl, hb⟩; replace H := H.call hb; clear hb) | ((with_reducible refine (callsB (great_any _ _ _ _) hG).mono ?_); rintro _ w1 ⟨rfl, hb⟩; replace H := H.call hb; clear hb) | ((with_reducible refine (hwhat _).mono ?_); rintro _ w1 ⟨rfl, hb⟩; replace H := H.call hb; clear hb) | ((with_reducible refine (callsI (next_any p f0 f1 i hw _) hN).mono ?_); rintro _ w1 ⟨rfl, hb⟩; replace H := H.call hb; clear hb))
  ((with_reducible refine wp_region_hpK H (by kernel_rfl) (by kernel_rfl) ?_); intro _ KQ hKQ; (repeat (first | go_big_quiet_skip | ((with_reducible refine hq_ld ?_); refine ⟨rfl, ?_⟩; refine ⟨c_look rfl, ?_⟩; refine ⟨_, _, rfl, ?_⟩; ((repeat ((fail_if_success refine ⟨_, _, _, .z, ?_⟩); refine hs ?_)); refine ⟨_, _, _, .z, ?_⟩); refine ⟨_, rfl, ?_⟩; go_frame) | ((with_reducible refine hq_lda ?_); refine ⟨rfl, by kernel_rfl, ?_⟩; refine ⟨_, s_look rfl, ?_⟩; refine ⟨_, rfl, ?_⟩; ((repeat ((fail_if_success refine ⟨_, _, _, .z, ?_⟩); refine hs ?_)); refine ⟨_, _, _, .z, ?_⟩); refine ⟨rfl, ?_⟩; go_frame) | ((with_reducible refine hq_lds ?_); refine ⟨rfl, by kernel_rfl, ?_⟩; refine ⟨_, s_look rfl, ?_⟩; refine ⟨_, _, rfl, ?_⟩; ((repeat ((fail_if_success refine ⟨_, _, _, .z, ?_⟩); refine hs ?_)); refine ⟨_, _, _, .z, ?_⟩); (first | refine ⟨[_, _], rfl, rfl, ?_⟩ | refine ⟨[_, _, _, _], rfl, rfl, ?_⟩ | refine ⟨[_, _, _, _, _, _, _], rfl, rfl, ?_⟩ | refine ⟨[_, _, _], rfl, rfl, ?_⟩ | (fail)); go_frame) | ((with_reducible refine hq_bdl ?_); (fail); go_frame) | (fail) | go_big_quiet_step ((fail)))); (with_reducible refine wpQuiet_nil (hKQ _ ?_)); clear hKQ; clear KQ H; intro w1 H)
  go_wp2_with (first | ((with_reducible refine Hp.box H ?_); refine ⟨rfl, _, rfl, ?_⟩; (clear H; intro g1 w1 H); go_frame) | ((with_reducible refine Hp.allo H ?_); refine ⟨rfl, ?_⟩; refine ⟨_, z_look rfl, ?_⟩; (clear H; intro g1 w1 H); go_frame) | ((with_reducible refine Hp.ld H ?_); refine ⟨rfl, ?_⟩; refine ⟨c_look rfl, ?_⟩; refine ⟨_, _, rfl, ?_⟩; ((repeat ((fail_if_success refine ⟨_, _, _, .z, ?_⟩); refine hs ?_)); refine ⟨_, _, _, .z, ?_⟩); refine ⟨_, rfl, ?_⟩; go_frame) | ((with_reducible refine Hp.lda H ?_); refine ⟨rfl, by kernel_rfl, ?_⟩; refine ⟨_, s_look rfl, ?_⟩; refine ⟨_, rfl, ?_⟩; ((repeat ((fail_if_success refine ⟨_, _, _, .z, ?_⟩); refine hs ?_)); refine ⟨_, _, _, .z, ?_⟩); refine ⟨rfl, ?_⟩; go_frame) | ((with_reducible refine Hp.lds H ?_); refine ⟨rfl, by kernel_rfl, ?_⟩; refine ⟨_, s_look rfl, ?_⟩; refine ⟨_, _, rfl, ?_⟩; ((repeat ((fail_if_success refine ⟨_, _, _, .z, ?_⟩); refine hs ?_)); refine ⟨_, _, _, .z, ?_⟩); (first | refine ⟨[_, _], rfl, rfl, ?_⟩ | refine ⟨[_, _, _, _], rfl, rfl, ?_⟩ | refine ⟨[_, _, _, _, _, _, _], rfl, rfl, ?_⟩ | refine ⟨[_, _, _], rfl, rfl, ?_⟩ | (fail)); go_frame) | ((with_reducible refine Hp.sto H ?_); refine ⟨rfl, ?_⟩; refine ⟨c_look rfl, ?_⟩; refine ⟨_, _, rfl, ?_⟩; ((repeat ((fail_if_success refine ⟨_, _, _, .z, ?_⟩); refine hs ?_)); refine ⟨_, _, _, .z, ?_⟩); refine ⟨⟨_, rfl⟩, rfl, ?_⟩; (clear H; intro w1 H; simp only [List.set] at H); go_frame) | ((with_reducible refine Hp.sta H ?_); refine ⟨rfl, ?_⟩; refine ⟨_, s_look rfl, ?_⟩; refine ⟨_, rfl, _, rfl, rfl, ?_⟩; ((repeat ((fail_if_success refine ⟨_, _, _, .z, ?_⟩); refine hs ?_)); refine ⟨_, _, _, .z, ?_⟩); refine ⟨rfl, rfl, ?_⟩; (clear H; intro w1 H; simp only [List.set] at H); go_frame) | ((with_reducible refine Hp.str H ?_); refine ⟨rfl, ?_⟩; refine ⟨_, s_look rfl, ?_⟩; refine ⟨_, _, rfl, _, rfl, rfl, ?_⟩; ((repeat ((fail_if_success refine ⟨_, _, _, .z, ?_⟩); refine hs ?_)); refine ⟨_, _, _, .z, ?_⟩); refine ⟨rfl, _, rfl, _, rfl, Nat.le_of_ble_eq_true rfl, ?_⟩; (clear H; intro w1 H; simp only [List.set] at H); go_frame) | ((with_reducible refine Hp.bdl H ?_); (fail); go_frame) | ((with_reducible refine (awake_any _).mono ?_); rintro _ w1 ⟨rfl, hb⟩; replace H := H.call hb; clear hb) | ((with_reducible refine (callsB (great_any _ _ _ _) hG).mono ?_); rintro _ w1 ⟨rfl, hb⟩; replace H := H.call hb; clear hb) | ((with_reducible refine (hwhat _).mono ?_); rintro _ w1 ⟨rfl, hb⟩; replace H := H.call hb; clear hb) | ((with_reducible refine (callsI (next_any p f0 f1 i hw _) hN).mono ?_); rintro _ w1 ⟨rfl, hb⟩; replace H := H.call hb; clear hb))
  go_ret
  exact ⟨rfl, H.below⟩
set_option maxHeartbeats 1000000 in
theorem slotWhere_1 (p : SRec) (f0 f1 : SCp) (i : Int) (w : World) (hG : greatB p f0 f1 = false) (hw : p.wh = 0 ∨ p.wh = 1) (hK : intI ⟨p, f0, f1, i⟩ = 1) : Calls Try.prog 5 #[.agg (recC p).toArray, .agg (copiesC f0 f1).toArray, .int .i64 i] w (RetV w (.bool true)) := by
  have hwhat := what_1 p f0 f1 i hw (hK := hK)
  have hN : nextI ⟨p, f0, f1, i⟩ = 0 := by unfold nextI; rw [hK]; rfl
  have ho := int_1 hK
  have h1 : (f1.st == 1) = true := by simp only [ofB, Bool.and_eq_true] at ho; exact ho.1
  have h2 : (f1.ix == i) = true := by simp only [ofB, Bool.and_eq_true] at ho; exact ho.2
  clear ho
  have H := Hp.nil w
  go_enter Try.func5, Try.ntmps5
  go_wp2_with (first | ((with_reducible refine Hp.box H ?_); refine ⟨rfl, _, rfl, ?_⟩; (clear H; intro g1 w1 H); go_frame) | ((with_reducible refine Hp.allo H ?_); refine ⟨rfl, ?_⟩; refine ⟨_, z_look rfl, ?_⟩; (clear H; intro g1 w1 H); go_frame) | ((with_reducible refine Hp.ld H ?_); refine ⟨rfl, ?_⟩; refine ⟨c_look rfl, ?_⟩; refine ⟨_, _, rfl, ?_⟩; ((repeat ((fail_if_success refine ⟨_, _, _, .z, ?_⟩); refine hs ?_)); refine ⟨_, _, _, .z, ?_⟩); refine ⟨_, rfl, ?_⟩; go_frame) | ((with_reducible refine Hp.lda H ?_); refine ⟨rfl, by kernel_rfl, ?_⟩; refine ⟨_, s_look rfl, ?_⟩; refine ⟨_, rfl, ?_⟩; ((repeat ((fail_if_success refine ⟨_, _, _, .z, ?_⟩); refine hs ?_)); refine ⟨_, _, _, .z, ?_⟩); refine ⟨rfl, ?_⟩; go_frame) | ((with_reducible refine Hp.lds H ?_); refine ⟨rfl, by kernel_rfl, ?_⟩; refine ⟨_, s_look rfl, ?_⟩; refine ⟨_, _, rfl, ?_⟩; ((repeat ((fail_if_success refine ⟨_, _, _, .z, ?_⟩); refine hs ?_)); refine ⟨_, _, _, .z, ?_⟩); (first | refine ⟨[_, _], rfl, rfl, ?_⟩ | refine ⟨[_, _, _, _], rfl, rfl, ?_⟩ | refine ⟨[_, _, _, _, _, _, _], rfl, rfl, ?_⟩ | refine ⟨[_, _, _], rfl, rfl, ?_⟩ | (fail)); go_frame) | ((with_reducible refine Hp.sto H ?_); refine ⟨rfl, ?_⟩; refine ⟨c_look rfl, ?_⟩; refine ⟨_, _, rfl, ?_⟩; ((repeat ((fail_if_success refine ⟨_, _, _, .z, ?_⟩); refine hs ?_)); refine ⟨_, _, _, .z, ?_⟩); refine ⟨⟨_, rfl⟩, rfl, ?_⟩; (clear H; intro w1 H; simp only [List.set] at H); go_frame) | ((with_reducible refine Hp.sta H ?_); refine ⟨rfl, ?_⟩; refine ⟨_, s_look rfl, ?_⟩; refine ⟨_, rfl, _, rfl, rfl, ?_⟩; ((repeat ((fail_if_success refine ⟨_, _, _, .z, ?_⟩); refine hs ?_)); refine ⟨_, _, _, .z, ?_⟩); refine ⟨rfl, rfl, ?_⟩; (clear H; intro w1 H; simp only [List.set] at H); go_frame) | ((with_reducible refine Hp.str H ?_); refine ⟨rfl, ?_⟩; refine ⟨_, s_look rfl, ?_⟩; refine ⟨_, _, rfl, _, rfl, rfl, ?_⟩; ((repeat ((fail_if_success refine ⟨_, _, _, .z, ?_⟩); refine hs ?_)); refine ⟨_, _, _, .z, ?_⟩); refine ⟨rfl, _, rfl, _, rfl, Nat.le_of_ble_eq_true rfl, ?_⟩; (clear H; intro w1 H; simp only [List.set] at H); go_frame) | ((with_reducible refine Hp.bdl H ?_); (fail); go_frame) | ((with_reducible refine (awake_any _).mono ?_); rintro _ w1 ⟨rfl, hb⟩; replace H := H.call hb; clear hb) | ((with_reducible refine (callsB (great_any _ _ _ _) hG).mono ?_); rintro _ w1 ⟨rfl, hb⟩; replace H := H.call hb; clear hb) | ((with_reducible refine (hwhat _).mono ?_); rintro _ w1 ⟨rfl, hb⟩; replace H := H.call hb; clear hb) | ((with_reducible refine (callsI (next_any p f0 f1 i hw _) hN).mono ?_); rintro _ w1 ⟨rfl, hb⟩; replace H := H.call hb; clear hb))
  ((with_reducible refine wp_region_hpK H (by kernel_rfl) (by kernel_rfl) ?_); intro _ KQ hKQ; (repeat (first | go_big_quiet_skip | ((with_reducible refine hq_ld ?_); refine ⟨rfl, ?_⟩; refine ⟨c_look rfl, ?_⟩; refine ⟨_, _, rfl, ?_⟩; ((repeat ((fail_if_success refine ⟨_, _, _, .z, ?_⟩); refine hs ?_)); refine ⟨_, _, _, .z, ?_⟩); refine ⟨_, rfl, ?_⟩; go_frame) | ((with_reducible refine hq_lda ?_); refine ⟨rfl, by kernel_rfl, ?_⟩; refine ⟨_, s_look rfl, ?_⟩; refine ⟨_, rfl, ?_⟩; ((repeat ((fail_if_success refine ⟨_, _, _, .z, ?_⟩); refine hs ?_)); refine ⟨_, _, _, .z, ?_⟩); refine ⟨rfl, ?_⟩; go_frame) | ((with_reducible refine hq_lds ?_); refine ⟨rfl, by kernel_rfl, ?_⟩; refine ⟨_, s_look rfl, ?_⟩; refine ⟨_, _, rfl, ?_⟩; ((repeat ((fail_if_success refine ⟨_, _, _, .z, ?_⟩); refine hs ?_)); refine ⟨_, _, _, .z, ?_⟩); (first | refine ⟨[_, _], rfl, rfl, ?_⟩ | refine ⟨[_, _, _, _], rfl, rfl, ?_⟩ | refine ⟨[_, _, _, _, _, _, _], rfl, rfl, ?_⟩ | refine ⟨[_, _, _], rfl, rfl, ?_⟩ | (fail)); go_frame) | ((with_reducible refine hq_bdl ?_); (fail); go_frame) | (fail) | go_big_quiet_step ((fail)))); (with_reducible refine wpQuiet_nil (hKQ _ ?_)); clear hKQ; clear KQ H; intro w1 H)
  go_wp2_with (first | ((with_reducible refine Hp.box H ?_); refine ⟨rfl, _, rfl, ?_⟩; (clear H; intro g1 w1 H); go_frame) | ((with_reducible refine Hp.allo H ?_); refine ⟨rfl, ?_⟩; refine ⟨_, z_look rfl, ?_⟩; (clear H; intro g1 w1 H); go_frame) | ((with_reducible refine Hp.ld H ?_); refine ⟨rfl, ?_⟩; refine ⟨c_look rfl, ?_⟩; refine ⟨_, _, rfl, ?_⟩; ((repeat ((fail_if_success refine ⟨_, _, _, .z, ?_⟩); refine hs ?_)); refine ⟨_, _, _, .z, ?_⟩); refine ⟨_, rfl, ?_⟩; go_frame) | ((with_reducible refine Hp.lda H ?_); refine ⟨rfl, by kernel_rfl, ?_⟩; refine ⟨_, s_look rfl, ?_⟩; refine ⟨_, rfl, ?_⟩; ((repeat ((fail_if_success refine ⟨_, _, _, .z, ?_⟩); refine hs ?_)); refine ⟨_, _, _, .z, ?_⟩); refine ⟨rfl, ?_⟩; go_frame) | ((with_reducible refine Hp.lds H ?_); refine ⟨rfl, by kernel_rfl, ?_⟩; refine ⟨_, s_look rfl, ?_⟩; refine ⟨_, _, rfl, ?_⟩; ((repeat ((fail_if_success refine ⟨_, _, _, .z, ?_⟩); refine hs ?_)); refine ⟨_, _, _, .z, ?_⟩); (first | refine ⟨[_, _], rfl, rfl, ?_⟩ | refine ⟨[_, _, _, _], rfl, rfl, ?_⟩ | refine ⟨[_, _, _, _, _, _, _], rfl, rfl, ?_⟩ | refine ⟨[_, _, _], rfl, rfl, ?_⟩ | (fail)); go_frame) | ((with_reducible refine Hp.sto H ?_); refine ⟨rfl, ?_⟩; refine ⟨c_look rfl, ?_⟩; refine ⟨_, _, rfl, ?_⟩; ((repeat ((fail_if_success refine ⟨_, _, _, .z, ?_⟩); refine hs ?_)); refine ⟨_, _, _, .z, ?_⟩); refine ⟨⟨_, rfl⟩, rfl, ?_⟩; (clear H; intro w1 H; simp only [List.set] at H); go_frame) | ((with_reducible refine Hp.sta H ?_); refine ⟨rfl, ?_⟩; refine ⟨_, s_look rfl, ?_⟩; refine ⟨_, rfl, _, rfl, rfl, ?_⟩; ((repeat ((fail_if_success refine ⟨_, _, _, .z, ?_⟩); refine hs ?_)); refine ⟨_, _, _, .z, ?_⟩); refine ⟨rfl, rfl, ?_⟩; (clear H; intro w1 H; simp only [List.set] at H); go_frame) | ((with_reducible refine Hp.str H ?_); refine ⟨rfl, ?_⟩; refine ⟨_, s_look rfl, ?_⟩; refine ⟨_, _, rfl, _, rfl, rfl, ?_⟩; ((repeat ((fail_if_success refine ⟨_, _, _, .z, ?_⟩); refine hs ?_)); refine ⟨_, _, _, .z, ?_⟩); refine ⟨rfl, _, rfl, _, rfl, Nat.le_of_ble_eq_true rfl, ?_⟩; (clear H; intro w1 H; simp only [List.set] at H); go_frame) | ((with_reducible refine Hp.bdl H ?_); (fail); go_frame) | ((with_reducible refine (awake_any _).mono ?_); rintro _ w1 ⟨rfl, hb⟩; replace H := H.call hb; clear hb) | ((with_reducible refine (callsB (great_any _ _ _ _) hG).mono ?_); rintro _ w1 ⟨rfl, hb⟩; replace H := H.call hb; clear hb) | ((with_reducible refine (hwhat _).mono ?_); rintro _ w1 ⟨rfl, hb⟩; replace H := H.call hb; clear hb) | ((with_reducible refine (callsI (next_any p f0 f1 i hw _) hN).mono ?_); rintro _ w1 ⟨rfl, hb⟩; replace H := H.call hb; clear hb))
  go_ret
  exact ⟨rfl, H.below⟩
set_option maxHeartbeats 1000000 in
theorem slotWhere_a (p : SRec) (f0 f1 : SCp) (i : Int) (w : World) (hG : greatB p f0 f1 = false) (hw : p.wh = 0 ∨ p.wh = 1) (hK : intI ⟨p, f0, f1, i⟩ = -1) (hA : ((p.st == 1) && (p.ix == i)) = true) (N : Int) (hN : nextI ⟨p, f0, f1, i⟩ = N) (hn0 : 0 ≤ N) (hn1 : N ≤ 1) : Calls Try.prog 5 #[.agg (recC p).toArray, .agg (copiesC f0 f1).toArray, .int .i64 i] w (RetV w (.bool true)) := by
  have hwhat := what_a p f0 f1 i hw (hK := hK) (hA := hA)
  have g0 : decide (N < 0) = false := decide_eq_false (by omega)
  have g1 : decide (1 < N) = false := decide_eq_false (by omega)
  have z0 : ent0.k = 0 := rfl
  have z1 : ent0.c = 0 := rfl
  have z2 : ent0.s = 0 := rfl
  have z3 : ent0.ok = 0 := rfl
  have z4 : ent0.s0 = ByteArray.empty := rfl
  have z5 : ent0.s1 = ByteArray.empty := rfl
  have z6 : ent0.s2 = ByteArray.empty := rfl
  have H := Hp.nil w
  go_enter Try.func5, Try.ntmps5
  go_wp2_with (first | ((with_reducible refine Hp.box H ?_); refine ⟨rfl, _, rfl, ?_⟩; (clear H; intro g1 w1 H); go_frame) | ((with_reducible refine Hp.allo H ?_); refine ⟨rfl, ?_⟩; refine ⟨_, z_look rfl, ?_⟩; (clear H; intro g1 w1 H); go_frame) | ((with_reducible refine Hp.ld H ?_); refine ⟨rfl, ?_⟩; refine ⟨c_look rfl, ?_⟩; refine ⟨_, _, rfl, ?_⟩; ((repeat ((fail_if_success refine ⟨_, _, _, .z, ?_⟩); refine hs ?_)); refine ⟨_, _, _, .z, ?_⟩); refine ⟨_, rfl, ?_⟩; go_frame) | ((with_reducible refine Hp.lda H ?_); refine ⟨rfl, by kernel_rfl, ?_⟩; refine ⟨_, s_look rfl, ?_⟩; refine ⟨_, rfl, ?_⟩; ((repeat ((fail_if_success refine ⟨_, _, _, .z, ?_⟩); refine hs ?_)); refine ⟨_, _, _, .z, ?_⟩); refine ⟨rfl, ?_⟩; go_frame) | ((with_reducible refine Hp.lds H ?_); refine ⟨rfl, by kernel_rfl, ?_⟩; refine ⟨_, s_look rfl, ?_⟩; refine ⟨_, _, rfl, ?_⟩; ((repeat ((fail_if_success refine ⟨_, _, _, .z, ?_⟩); refine hs ?_)); refine ⟨_, _, _, .z, ?_⟩); (first | refine ⟨[_, _], rfl, rfl, ?_⟩ | refine ⟨[_, _, _, _], rfl, rfl, ?_⟩ | refine ⟨[_, _, _, _, _, _, _], rfl, rfl, ?_⟩ | refine ⟨[_, _, _], rfl, rfl, ?_⟩ | (fail)); go_frame) | ((with_reducible refine Hp.sto H ?_); refine ⟨rfl, ?_⟩; refine ⟨c_look rfl, ?_⟩; refine ⟨_, _, rfl, ?_⟩; ((repeat ((fail_if_success refine ⟨_, _, _, .z, ?_⟩); refine hs ?_)); refine ⟨_, _, _, .z, ?_⟩); refine ⟨⟨_, rfl⟩, rfl, ?_⟩; (clear H; intro w1 H; simp only [List.set] at H); go_frame) | ((with_reducible refine Hp.sta H ?_); refine ⟨rfl, ?_⟩; refine ⟨_, s_look rfl, ?_⟩; refine ⟨_, rfl, _, rfl, rfl, ?_⟩; ((repeat ((fail_if_success refine ⟨_, _, _, .z, ?_⟩); refine hs ?_)); refine ⟨_, _, _, .z, ?_⟩); refine ⟨rfl, rfl, ?_⟩; (clear H; intro w1 H; simp only [List.set] at H); go_frame) | ((with_reducible refine Hp.str H ?_); refine ⟨rfl, ?_⟩; refine ⟨_, s_look rfl, ?_⟩; refine ⟨_, _, rfl, _, rfl, rfl, ?_⟩; ((repeat ((fail_if_success refine ⟨_, _, _, .z, ?_⟩); refine hs ?_)); refine ⟨_, _, _, .z, ?_⟩); refine ⟨rfl, _, rfl, _, rfl, Nat.le_of_ble_eq_true rfl, ?_⟩; (clear H; intro w1 H; simp only [List.set] at H); go_frame) | ((with_reducible refine Hp.bdl H ?_); (fail); go_frame) | ((with_reducible refine (awake_any _).mono ?_); rintro _ w1 ⟨rfl, hb⟩; replace H := H.call hb; clear hb) | ((with_reducible refine (callsB (great_any _ _ _ _) hG).mono ?_); rintro _ w1 ⟨rfl, hb⟩; replace H := H.call hb; clear hb) | ((with_reducible refine (hwhat _).mono ?_); rintro _ w1 ⟨rfl, hb⟩; replace H := H.call hb; clear hb) | ((with_reducible refine (callsI (next_any p f0 f1 i hw _) hN).mono ?_); rintro _ w1 ⟨rfl, hb⟩; replace H := H.call hb; clear hb))
  go_ret
  exact ⟨rfl, H.below⟩
theorem what_n (p : SRec) (f0 f1 : SCp) (i : Int) (hw : p.wh = 0 ∨ p.wh = 1) (hK : intI ⟨p, f0, f1, i⟩ = -1) (hA : ((p.st == 1) && (p.ix == i)) = false) : ∃ cl st : Int, (cl == 3) = false ∧ (st == 3) = false ∧ ∀ w, Calls Try.prog 15 #[.agg (recC p).toArray, .agg (copiesC f0 f1).toArray, .int .i64 i] w (RetV w (.tuple #[.int .u8 cl, .agg (repC ⟨i, st, 0, 0, ent0⟩).toArray, .int .i64 (-1)])) := by
  cases hB : beyB ⟨p, f0, f1, i⟩
  · cases hC : (p.st != 2) <;> cases hD : badB ⟨p, f0, f1, i⟩
    · exact ⟨_, _, rfl, rfl, fun w => what_d0 p f0 f1 i hw w hK hA hB hC hD⟩
    · exact ⟨_, _, rfl, rfl, fun w => what_d1 p f0 f1 i hw w hK hA hB hC hD⟩
    · exact ⟨_, _, rfl, rfl, fun w => what_c0 p f0 f1 i hw w hK hA hB hC hD⟩
    · exact ⟨_, _, rfl, rfl, fun w => what_c1 p f0 f1 i hw w hK hA hB hC hD⟩
  · exact ⟨_, _, rfl, rfl, fun w => what_b p f0 f1 i hw w hK hA hB⟩
set_option maxHeartbeats 1000000 in
theorem slotWhere_n (p : SRec) (f0 f1 : SCp) (i : Int) (w : World) (hG : greatB p f0 f1 = false) (hw : p.wh = 0 ∨ p.wh = 1) (hK : intI ⟨p, f0, f1, i⟩ = -1) (hA : ((p.st == 1) && (p.ix == i)) = false) (N : Int) (hN : nextI ⟨p, f0, f1, i⟩ = N) (hn0 : 0 ≤ N) (hn1 : N ≤ 1) : Calls Try.prog 5 #[.agg (recC p).toArray, .agg (copiesC f0 f1).toArray, .int .i64 i] w (RetV w (.bool true)) := by
  obtain ⟨cl, st, hcl, hst, hwhat⟩ := what_n p f0 f1 i hw hK hA
  have g0 : decide (N < 0) = false := decide_eq_false (by omega)
  have g1 : decide (1 < N) = false := decide_eq_false (by omega)
  have z0 : ent0.k = 0 := rfl
  have z1 : ent0.c = 0 := rfl
  have z2 : ent0.s = 0 := rfl
  have z3 : ent0.ok = 0 := rfl
  have z4 : ent0.s0 = ByteArray.empty := rfl
  have z5 : ent0.s1 = ByteArray.empty := rfl
  have z6 : ent0.s2 = ByteArray.empty := rfl
  have H := Hp.nil w
  go_enter Try.func5, Try.ntmps5
  go_wp2_with (first | ((with_reducible refine Hp.box H ?_); refine ⟨rfl, _, rfl, ?_⟩; (clear H; intro g1 w1 H); go_frame) | ((with_reducible refine Hp.allo H ?_); refine ⟨rfl, ?_⟩; refine ⟨_, z_look rfl, ?_⟩; (clear H; intro g1 w1 H); go_frame) | ((with_reducible refine Hp.ld H ?_); refine ⟨rfl, ?_⟩; refine ⟨c_look rfl, ?_⟩; refine ⟨_, _, rfl, ?_⟩; ((repeat ((fail_if_success refine ⟨_, _, _, .z, ?_⟩); refine hs ?_)); refine ⟨_, _, _, .z, ?_⟩); refine ⟨_, rfl, ?_⟩; go_frame) | ((with_reducible refine Hp.lda H ?_); refine ⟨rfl, by kernel_rfl, ?_⟩; refine ⟨_, s_look rfl, ?_⟩; refine ⟨_, rfl, ?_⟩; ((repeat ((fail_if_success refine ⟨_, _, _, .z, ?_⟩); refine hs ?_)); refine ⟨_, _, _, .z, ?_⟩); refine ⟨rfl, ?_⟩; go_frame) | ((with_reducible refine Hp.lds H ?_); refine ⟨rfl, by kernel_rfl, ?_⟩; refine ⟨_, s_look rfl, ?_⟩; refine ⟨_, _, rfl, ?_⟩; ((repeat ((fail_if_success refine ⟨_, _, _, .z, ?_⟩); refine hs ?_)); refine ⟨_, _, _, .z, ?_⟩); (first | refine ⟨[_, _], rfl, rfl, ?_⟩ | refine ⟨[_, _, _, _], rfl, rfl, ?_⟩ | refine ⟨[_, _, _, _, _, _, _], rfl, rfl, ?_⟩ | refine ⟨[_, _, _], rfl, rfl, ?_⟩ | (fail)); go_frame) | ((with_reducible refine Hp.sto H ?_); refine ⟨rfl, ?_⟩; refine ⟨c_look rfl, ?_⟩; refine ⟨_, _, rfl, ?_⟩; ((repeat ((fail_if_success refine ⟨_, _, _, .z, ?_⟩); refine hs ?_)); refine ⟨_, _, _, .z, ?_⟩); refine ⟨⟨_, rfl⟩, rfl, ?_⟩; (clear H; intro w1 H; simp only [List.set] at H); go_frame) | ((with_reducible refine Hp.sta H ?_); refine ⟨rfl, ?_⟩; refine ⟨_, s_look rfl, ?_⟩; refine ⟨_, rfl, _, rfl, rfl, ?_⟩; ((repeat ((fail_if_success refine ⟨_, _, _, .z, ?_⟩); refine hs ?_)); refine ⟨_, _, _, .z, ?_⟩); refine ⟨rfl, rfl, ?_⟩; (clear H; intro w1 H; simp only [List.set] at H); go_frame) | ((with_reducible refine Hp.str H ?_); refine ⟨rfl, ?_⟩; refine ⟨_, s_look rfl, ?_⟩; refine ⟨_, _, rfl, _, rfl, rfl, ?_⟩; ((repeat ((fail_if_success refine ⟨_, _, _, .z, ?_⟩); refine hs ?_)); refine ⟨_, _, _, .z, ?_⟩); refine ⟨rfl, _, rfl, _, rfl, Nat.le_of_ble_eq_true rfl, ?_⟩; (clear H; intro w1 H; simp only [List.set] at H); go_frame) | ((with_reducible refine Hp.bdl H ?_); (fail); go_frame) | ((with_reducible refine (awake_any _).mono ?_); rintro _ w1 ⟨rfl, hb⟩; replace H := H.call hb; clear hb) | ((with_reducible refine (callsB (great_any _ _ _ _) hG).mono ?_); rintro _ w1 ⟨rfl, hb⟩; replace H := H.call hb; clear hb) | ((with_reducible refine (hwhat _).mono ?_); rintro _ w1 ⟨rfl, hb⟩; replace H := H.call hb; clear hb) | ((with_reducible refine (callsI (next_any p f0 f1 i hw _) hN).mono ?_); rintro _ w1 ⟨rfl, hb⟩; replace H := H.call hb; clear hb))
  go_ret
  exact ⟨rfl, H.below⟩
theorem slotWhere_any (p : SRec) (f0 f1 : SCp) (i : Int) (w : World) : Calls Try.prog 5 #[.agg (recC p).toArray, .agg (copiesC f0 f1).toArray, .int .i64 i] w (RetV w (.bool true)) := by
  cases hG : greatB p f0 f1
  · have hw := great_wh hG
    have hb := int_bd ⟨p, f0, f1, i⟩
    have hn := next_bd ⟨p, f0, f1, i⟩ hw
    by_cases h0 : intI ⟨p, f0, f1, i⟩ = 0
    · exact slotWhere_0 p f0 f1 i w hG hw h0
    by_cases h1 : intI ⟨p, f0, f1, i⟩ = 1
    · exact slotWhere_1 p f0 f1 i w hG hw h1
    have hK := int_neg _ h0 h1
    cases hA : ((p.st == 1) && (p.ix == i))
    · exact slotWhere_n p f0 f1 i w hG hw hK hA _ rfl (by omega) (by omega)
    · exact slotWhere_a p f0 f1 i w hG hw hK hA _ rfl (by omega) (by omega)
  · exact slotWhere_great p f0 f1 i w hG
theorem slotWhere_walk (a0 : Nat) (a1 : Int) (a2 : Int) (a3 : Int) (a4 : Int) (b0_0 : Nat) (b0_1 : Int) (b0_2 : Int) (b0_3 : Int) (b0_4 : Nat) (b0_5 : Int) (b0_6 : Int) (b0_7 : Nat) (b0_8 : ByteArray) (b0_9 : ByteArray) (b0_10 : ByteArray) (b1_0 : Nat) (b1_1 : Int) (b1_2 : Int) (b1_3 : Int) (b1_4 : Nat) (b1_5 : Int) (b1_6 : Int) (b1_7 : Nat) (b1_8 : ByteArray) (b1_9 : ByteArray) (b1_10 : ByteArray) (i : Int) (w : World) (ha0 : a0 < 2 ^ 8) (la1 : -9223372036854775808 ≤ a1) (ua1 : a1 ≤ 9223372036854775807) (la2 : -9223372036854775808 ≤ a2) (ua2 : a2 ≤ 9223372036854775807) (la3 : -9223372036854775808 ≤ a3) (ua3 : a3 ≤ 9223372036854775807) (la4 : -9223372036854775808 ≤ a4) (ua4 : a4 ≤ 9223372036854775807) (hb0_0 : b0_0 < 2 ^ 8) (lb0_1 : -9223372036854775808 ≤ b0_1) (ub0_1 : b0_1 ≤ 9223372036854775807) (lb0_2 : -9223372036854775808 ≤ b0_2) (ub0_2 : b0_2 ≤ 9223372036854775807) (lb0_3 : -9223372036854775808 ≤ b0_3) (ub0_3 : b0_3 ≤ 9223372036854775807) (hb0_4 : b0_4 < 2 ^ 8) (lb0_5 : -9223372036854775808 ≤ b0_5) (ub0_5 : b0_5 ≤ 9223372036854775807) (lb0_6 : -9223372036854775808 ≤ b0_6) (ub0_6 : b0_6 ≤ 9223372036854775807) (hb0_7 : b0_7 < 2 ^ 8) (sb0_8 : b0_8.size ≤ maxLen) (sb0_9 : b0_9.size ≤ maxLen) (sb0_10 : b0_10.size ≤ maxLen) (hb1_0 : b1_0 < 2 ^ 8) (lb1_1 : -9223372036854775808 ≤ b1_1) (ub1_1 : b1_1 ≤ 9223372036854775807) (lb1_2 : -9223372036854775808 ≤ b1_2) (ub1_2 : b1_2 ≤ 9223372036854775807) (lb1_3 : -9223372036854775808 ≤ b1_3) (ub1_3 : b1_3 ≤ 9223372036854775807) (hb1_4 : b1_4 < 2 ^ 8) (lb1_5 : -9223372036854775808 ≤ b1_5) (ub1_5 : b1_5 ≤ 9223372036854775807) (lb1_6 : -9223372036854775808 ≤ b1_6) (ub1_6 : b1_6 ≤ 9223372036854775807) (hb1_7 : b1_7 < 2 ^ 8) (sb1_8 : b1_8.size ≤ maxLen) (sb1_9 : b1_9.size ≤ maxLen) (sb1_10 : b1_10.size ≤ maxLen) (li : -9223372036854775808 ≤ i) (ui : i ≤ 9223372036854775807) :
    Calls Try.prog 5 #[.agg #[.int .u8 (a0 : Int), .int .i64 a1, .int .i64 a2, .int .i64 a3, .int .i64 a4], .agg #[.int .u8 (b0_0 : Int), .int .i64 b0_1, .int .i64 b0_2, .int .i64 b0_3, .int .u8 (b0_4 : Int), .int .i64 b0_5, .int .i64 b0_6, .int .u8 (b0_7 : Int), .string b0_8, .string b0_9, .string b0_10, .int .u8 (b1_0 : Int), .int .i64 b1_1, .int .i64 b1_2, .int .i64 b1_3, .int .u8 (b1_4 : Int), .int .i64 b1_5, .int .i64 b1_6, .int .u8 (b1_7 : Int), .string b1_8, .string b1_9, .string b1_10], .int .i64 i] w (RetV w (.bool true)) :=
  slotWhere_any ⟨a0, a1, a2, a3, a4⟩ ⟨b0_0, b0_1, b0_2, b0_3, ⟨b0_4, b0_5, b0_6, b0_7, b0_8, b0_9, b0_10⟩⟩ ⟨b1_0, b1_1, b1_2, b1_3, ⟨b1_4, b1_5, b1_6, b1_7, b1_8, b1_9, b1_10⟩⟩ i w
end Go.Proofs.Ytppokfenbdfegaa
