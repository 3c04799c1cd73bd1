/-
  THE WALKS OF THE REFERENCE's Bytes, Print.
-/
import Derived.Test.YtajgikjmoeemnaaDoorEntS
import Derived.Test.YtajgikjmoeemnaaDoorPk5
import Derived.Test.YtajgikjmoeemnaaDoorPk2
import Derived.Test.YtajgikjmoeemnaaDoorPk1
namespace Go.Proofs.YtajgikjmoeemnaaDoor
set_option maxRecDepth 100000
open Go.RowKit
set_option linter.unusedVariables false
set_option linter.unusedSimpArgs false
theorem put1 {n : Int} (h0 : 0 ≤ n) (h : n < 256) : putL 1 n = [UInt8.ofNat n.toNat] := by
  rw [putL_one h0 h]
  simp [leB]
theorem u8_back {n : Int} (h0 : 0 ≤ n) (h : n < 256) : ((UInt8.ofNat n.toNat).toNat : Int) = n := by
  rw [ofNat_toNat]
  omega
theorem entL_two {c s ok : Int} {s0 s1 s2 : ByteArray} (h1 : 0 ≤ c) (h2 : c < 256) (h3 : 0 ≤ ok) (h4 : ok < 256) :
    entL ⟨2, c, s, ok, s0, s1, s2⟩ = [2, UInt8.ofNat c.toNat] ++ putL 6 s ++ [UInt8.ofNat ok.toNat] ++ textL s0.data.toList ++ textL s1.data.toList ++ textL s2.data.toList := by
  unfold entL
  rw [if_pos rfl]
  simp only
  rw [put1 h1 h2, put1 h3 h4, show putL 1 2 = [2] from by decide]
  simp
set_option maxHeartbeats 4000000 in
theorem rbytes_no (e : En) (hsm : Sm e) (hma : mayB e = false) (w : World) : Calls Tryd.prog 25 #[.agg (enC e).toArray] w (RetBI w [] 2) := by
  have H := Hp.nil w
  go_enter Tryd.func25, Tryd.ntmps25
  go_wp2_with (first | ((with_reducible refine Hp.box H ?_); (first | refine ⟨rfl, [.pointer _], rfl, ?_⟩ | refine ⟨rfl, [.int _ _], rfl, ?_⟩ | refine ⟨rfl, [.slice _ _ _], rfl, ?_⟩ | refine ⟨rfl, [.bool _], rfl, ?_⟩ | refine ⟨rfl, [.string _], rfl, ?_⟩ | refine ⟨rfl, _, rfl, ?_⟩); (clear H; intro g1 w1 H); go_frame) | ((with_reducible refine Hp.lda H ?_); refine ⟨rfl, by kernel_rfl, ?_⟩; refine ⟨_, s_look rfl, ?_⟩; refine ⟨_, rfl, ?_⟩; ((repeat ((fail_if_success refine ⟨_, _, _, .z, ?_⟩); refine hs ?_)); refine ⟨_, _, _, .z, ?_⟩); refine ⟨rfl, ?_⟩; go_frame) | ((with_reducible refine (rmay_b _ _ _ hma hsm).mono ?_); rintro _ w1 ⟨rfl, hb⟩; replace H := H.call hb; clear hb))
  go_ret2
  exact ⟨none, 0, rfl, Own.none_ _ _, H.below⟩
set_option maxHeartbeats 4000000 in
theorem rbytes_noop (w : World) : Calls Tryd.prog 25 #[.agg (enC ⟨1, 0, 0, 0, .empty, .empty, .empty⟩).toArray] w (RetBI w [1] 0) := by
  have H := Hp.nil w
  have hma : mayB ⟨1, 0, 0, 0, .empty, .empty, .empty⟩ = true := by
    unfold mayB isNoop
    rw [show mtB .empty = true from by rw [mtB, empty_toList]; rfl]
    rfl
  have hsm : Sm ⟨1, 0, 0, 0, .empty, .empty, .empty⟩ := ⟨Nat.zero_le _, Nat.zero_le _, Nat.zero_le _⟩
  go_enter Tryd.func25, Tryd.ntmps25
  go_wp2_with (first | ((with_reducible refine Hp.box H ?_); (first | refine ⟨rfl, [.pointer _], rfl, ?_⟩ | refine ⟨rfl, [.int _ _], rfl, ?_⟩ | refine ⟨rfl, [.slice _ _ _], rfl, ?_⟩ | refine ⟨rfl, [.bool _], rfl, ?_⟩ | refine ⟨rfl, [.string _], rfl, ?_⟩ | refine ⟨rfl, _, rfl, ?_⟩); (clear H; intro g1 w1 H); go_frame) | ((with_reducible refine Hp.ld H ?_); refine ⟨rfl, ?_⟩; refine ⟨c_look rfl, ?_⟩; refine ⟨_, _, rfl, ?_⟩; ((repeat ((fail_if_success refine ⟨_, _, _, .z, ?_⟩); refine hs ?_)); refine ⟨_, _, _, .z, ?_⟩); refine ⟨_, rfl, ?_⟩; go_frame) | ((with_reducible refine Hp.lda H ?_); refine ⟨rfl, by kernel_rfl, ?_⟩; refine ⟨_, s_look rfl, ?_⟩; refine ⟨_, rfl, ?_⟩; ((repeat ((fail_if_success refine ⟨_, _, _, .z, ?_⟩); refine hs ?_)); refine ⟨_, _, _, .z, ?_⟩); refine ⟨rfl, ?_⟩; go_frame) | ((with_reducible refine (rmay_b _ _ _ hma hsm).mono ?_); rintro _ w1 ⟨rfl, hb⟩; replace H := H.call hb; clear hb) | ((with_reducible refine Hp.bslB (parts := [_]) H ?_); refine ⟨rfl, rfl, rfl, bvs [1], rfl, [1], rfl, rfl, ?_⟩; (clear H; intro g1 w1 H); go_frame))
  go_ret2
  exact ⟨_, _, rfl, H.o 0 rfl, H.below⟩
set_option maxRecDepth 100000 in
set_option maxHeartbeats 4000000 in
theorem rbytes_two (c s ok : Int) (s0 s1 s2 : ByteArray) (hma : mayB ⟨2, c, s, ok, s0, s1, s2⟩ = true) (hsm : Sm ⟨2, c, s, ok, s0, s1, s2⟩) (c0 : 0 ≤ c) (c1 : c < 256) (k0 : 0 ≤ ok) (k1 : ok < 256) (hs64 : s ≤ 9223372036854775807) (w : World) :
    Calls Tryd.prog 25 #[.agg (enC ⟨2, c, s, ok, s0, s1, s2⟩).toArray] w (RetBI w (entL ⟨2, c, s, ok, s0, s1, s2⟩) 0) := by
  have H := Hp.nil w
  obtain ⟨h0, h1, h2⟩ := id hsm
  have hwc : IntKind.u8.wrap c = c := by unfold IntKind.wrap; simp [IntKind.signed, IntKind.bits]; omega
  have HV2 : Hid ([.int .u8 2, .int .u8 c] = bvs [2, UInt8.ofNat c.toNat]) := Lib.hid (by show _ = [Value.int .u8 ((2 : UInt8).toNat : Int), Value.int .u8 ((UInt8.ofNat c.toNat).toNat : Int)]; rw [u8_back c0 c1]; rfl)
  have HV1 : Hid ([.int .u8 ok] = bvs [UInt8.ofNat ok.toNat]) := Lib.hid (by show _ = [Value.int .u8 ((UInt8.ofNat ok.toNat).toNat : Int)]; rw [u8_back k0 k1])
  have HF := Lib.hid (entL_two (s := s) (s0 := s0) (s1 := s1) (s2 := s2) c0 c1 k0 k1)
  have m1 := putL_length6 6 s
  have m2 := textL_length_le s0.data.toList
  have m3 := textL_length_le s1.data.toList
  have m4 := textL_length_le s2.data.toList
  go_enter Tryd.func25, Tryd.ntmps25
  go_wp2_with (first | ((with_reducible refine Hp.box H ?_); (first | refine ⟨rfl, [.pointer _], rfl, ?_⟩ | refine ⟨rfl, [.int _ _], rfl, ?_⟩ | refine ⟨rfl, [.slice _ _ _], rfl, ?_⟩ | refine ⟨rfl, [.bool _], rfl, ?_⟩ | refine ⟨rfl, [.string _], rfl, ?_⟩ | refine ⟨rfl, _, rfl, ?_⟩); (clear H; intro g1 w1 H); go_frame) | ((with_reducible refine Hp.ld H ?_); refine ⟨rfl, ?_⟩; refine ⟨c_look rfl, ?_⟩; refine ⟨_, _, rfl, ?_⟩; ((repeat ((fail_if_success refine ⟨_, _, _, .z, ?_⟩); refine hs ?_)); refine ⟨_, _, _, .z, ?_⟩); refine ⟨_, rfl, ?_⟩; go_frame) | ((with_reducible refine Hp.lda H ?_); refine ⟨rfl, by kernel_rfl, ?_⟩; refine ⟨_, s_look rfl, ?_⟩; refine ⟨_, rfl, ?_⟩; ((repeat ((fail_if_success refine ⟨_, _, _, .z, ?_⟩); refine hs ?_)); refine ⟨_, _, _, .z, ?_⟩); refine ⟨rfl, ?_⟩; go_frame) | ((with_reducible refine (rmay_b _ _ _ hma hsm).mono ?_); rintro _ w1 ⟨rfl, hb⟩; replace H := H.call hb; clear hb) | ((with_reducible refine Hp.bslB (parts := [_, _]) H ?_); refine ⟨rfl, rfl, rfl, _, rfl, _, HV2.out, rfl, ?_⟩; (clear H; intro g1 w1 H); go_frame) | ((with_reducible refine (rput_any 6 _ _ hs64).mono ?_); rintro _ w1 ⟨A1, c1, rfl, hown, hb⟩; replace H := H.callOwn hb hown; clear hb hown) | ((with_reducible refine Hp.bslB (parts := [_]) H ?_); refine ⟨rfl, rfl, rfl, _, rfl, _, HV1.out, rfl, ?_⟩; (clear H; intro g1 w1 H); go_frame) | ((with_reducible refine Hp.bslS (parts := [_, _, _]) H ?_); refine ⟨rfl, rfl, rfl, [.string s0, .string s1, .string s2], rfl, rfl, rfl, ?_⟩; (clear H; intro g1 w1 H); go_frame) | (first | (at_builtin; refine H.wlAppendBytes rfl _ _ rfl 1 _ _ _ _ (by rfl) rfl (by simp only [List.length_append, List.length_cons, List.length_nil]; first | done | omega) _ _ _ _ (by rfl) rfl (H.o 0 rfl).rd (by simp only [List.length_append, List.length_cons, List.length_nil]; omega) ?_; (clear H; intro A1 c1 w1 H); simp only [List.set] at H) | (at_builtin; refine H.wlAppendBytes rfl _ _ rfl 2 _ _ _ _ (by rfl) rfl (by simp only [List.length_append, List.length_cons, List.length_nil]; first | done | omega) _ _ _ _ (by rfl) rfl (H.o 0 rfl).rd (by simp only [List.length_append, List.length_cons, List.length_nil]; omega) ?_; (clear H; intro A1 c1 w1 H); simp only [List.set] at H) | (at_builtin; refine H.wlAppendBytes rfl _ _ rfl 4 _ _ _ _ (by rfl) rfl (by simp only [List.length_append, List.length_cons, List.length_nil]; first | done | omega) _ _ _ _ (by rfl) rfl (H.o 0 rfl).rd (by simp only [List.length_append, List.length_cons, List.length_nil]; omega) ?_; (clear H; intro A1 c1 w1 H); simp only [List.set] at H) | (at_builtin; refine H.wlAppendBytes rfl _ _ rfl 5 _ _ _ _ (by rfl) rfl (by simp only [List.length_append, List.length_cons, List.length_nil]; first | done | omega) _ _ _ _ (by rfl) rfl (H.o 0 rfl).rd (by simp only [List.length_append, List.length_cons, List.length_nil]; omega) ?_; (clear H; intro A1 c1 w1 H); simp only [List.set] at H) | (at_builtin; refine H.wlAppendBytes rfl _ _ rfl 6 _ _ _ _ (by rfl) rfl (by simp only [List.length_append, List.length_cons, List.length_nil]; first | done | omega) _ _ _ _ (by rfl) rfl (H.o 0 rfl).rd (by simp only [List.length_append, List.length_cons, List.length_nil]; omega) ?_; (clear H; intro A1 c1 w1 H); simp only [List.set] at H)))
  refine wp_loop_rounds 4 ?_
  rw [rounds_succ]
  go_wp2_with (first | ((with_reducible refine Hp.ld H ?_); refine ⟨rfl, ?_⟩; refine ⟨c_look rfl, ?_⟩; refine ⟨_, _, rfl, ?_⟩; ((repeat ((fail_if_success refine ⟨_, _, _, .z, ?_⟩); refine hs ?_)); refine ⟨_, _, _, .z, ?_⟩); refine ⟨_, rfl, ?_⟩; go_frame) | ((with_reducible refine (rtext_any _ _ h0).mono ?_); rintro _ w1 ⟨A1, c1, rfl, hown, hb⟩; replace H := H.callOwn hb hown; clear hb hown) | (first | (at_builtin; refine H.wlAppendBytes rfl _ _ rfl 1 _ _ _ _ (by rfl) rfl (by simp only [List.length_append, List.length_cons, List.length_nil]; first | done | omega) _ _ _ _ (by rfl) rfl (H.o 0 rfl).rd (by simp only [List.length_append, List.length_cons, List.length_nil]; omega) ?_; (clear H; intro A1 c1 w1 H); simp only [List.set] at H) | (at_builtin; refine H.wlAppendBytes rfl _ _ rfl 2 _ _ _ _ (by rfl) rfl (by simp only [List.length_append, List.length_cons, List.length_nil]; first | done | omega) _ _ _ _ (by rfl) rfl (H.o 0 rfl).rd (by simp only [List.length_append, List.length_cons, List.length_nil]; omega) ?_; (clear H; intro A1 c1 w1 H); simp only [List.set] at H) | (at_builtin; refine H.wlAppendBytes rfl _ _ rfl 4 _ _ _ _ (by rfl) rfl (by simp only [List.length_append, List.length_cons, List.length_nil]; first | done | omega) _ _ _ _ (by rfl) rfl (H.o 0 rfl).rd (by simp only [List.length_append, List.length_cons, List.length_nil]; omega) ?_; (clear H; intro A1 c1 w1 H); simp only [List.set] at H) | (at_builtin; refine H.wlAppendBytes rfl _ _ rfl 5 _ _ _ _ (by rfl) rfl (by simp only [List.length_append, List.length_cons, List.length_nil]; first | done | omega) _ _ _ _ (by rfl) rfl (H.o 0 rfl).rd (by simp only [List.length_append, List.length_cons, List.length_nil]; omega) ?_; (clear H; intro A1 c1 w1 H); simp only [List.set] at H) | (at_builtin; refine H.wlAppendBytes rfl _ _ rfl 6 _ _ _ _ (by rfl) rfl (by simp only [List.length_append, List.length_cons, List.length_nil]; first | done | omega) _ _ _ _ (by rfl) rfl (H.o 0 rfl).rd (by simp only [List.length_append, List.length_cons, List.length_nil]; omega) ?_; (clear H; intro A1 c1 w1 H); simp only [List.set] at H)))
  rw [rounds_succ]
  go_wp2_with (first | ((with_reducible refine Hp.ld H ?_); refine ⟨rfl, ?_⟩; refine ⟨c_look rfl, ?_⟩; refine ⟨_, _, rfl, ?_⟩; ((repeat ((fail_if_success refine ⟨_, _, _, .z, ?_⟩); refine hs ?_)); refine ⟨_, _, _, .z, ?_⟩); refine ⟨_, rfl, ?_⟩; go_frame) | ((with_reducible refine (rtext_any _ _ h1).mono ?_); rintro _ w1 ⟨A1, c1, rfl, hown, hb⟩; replace H := H.callOwn hb hown; clear hb hown) | (first | (at_builtin; refine H.wlAppendBytes rfl _ _ rfl 1 _ _ _ _ (by rfl) rfl (by simp only [List.length_append, List.length_cons, List.length_nil]; first | done | omega) _ _ _ _ (by rfl) rfl (H.o 0 rfl).rd (by simp only [List.length_append, List.length_cons, List.length_nil]; omega) ?_; (clear H; intro A1 c1 w1 H); simp only [List.set] at H) | (at_builtin; refine H.wlAppendBytes rfl _ _ rfl 2 _ _ _ _ (by rfl) rfl (by simp only [List.length_append, List.length_cons, List.length_nil]; first | done | omega) _ _ _ _ (by rfl) rfl (H.o 0 rfl).rd (by simp only [List.length_append, List.length_cons, List.length_nil]; omega) ?_; (clear H; intro A1 c1 w1 H); simp only [List.set] at H) | (at_builtin; refine H.wlAppendBytes rfl _ _ rfl 4 _ _ _ _ (by rfl) rfl (by simp only [List.length_append, List.length_cons, List.length_nil]; first | done | omega) _ _ _ _ (by rfl) rfl (H.o 0 rfl).rd (by simp only [List.length_append, List.length_cons, List.length_nil]; omega) ?_; (clear H; intro A1 c1 w1 H); simp only [List.set] at H) | (at_builtin; refine H.wlAppendBytes rfl _ _ rfl 5 _ _ _ _ (by rfl) rfl (by simp only [List.length_append, List.length_cons, List.length_nil]; first | done | omega) _ _ _ _ (by rfl) rfl (H.o 0 rfl).rd (by simp only [List.length_append, List.length_cons, List.length_nil]; omega) ?_; (clear H; intro A1 c1 w1 H); simp only [List.set] at H) | (at_builtin; refine H.wlAppendBytes rfl _ _ rfl 6 _ _ _ _ (by rfl) rfl (by simp only [List.length_append, List.length_cons, List.length_nil]; first | done | omega) _ _ _ _ (by rfl) rfl (H.o 0 rfl).rd (by simp only [List.length_append, List.length_cons, List.length_nil]; omega) ?_; (clear H; intro A1 c1 w1 H); simp only [List.set] at H)))
  rw [rounds_succ]
  go_wp2_with (first | ((with_reducible refine Hp.ld H ?_); refine ⟨rfl, ?_⟩; refine ⟨c_look rfl, ?_⟩; refine ⟨_, _, rfl, ?_⟩; ((repeat ((fail_if_success refine ⟨_, _, _, .z, ?_⟩); refine hs ?_)); refine ⟨_, _, _, .z, ?_⟩); refine ⟨_, rfl, ?_⟩; go_frame) | ((with_reducible refine (rtext_any _ _ h2).mono ?_); rintro _ w1 ⟨A1, c1, rfl, hown, hb⟩; replace H := H.callOwn hb hown; clear hb hown) | (first | (at_builtin; refine H.wlAppendBytes rfl _ _ rfl 1 _ _ _ _ (by rfl) rfl (by simp only [List.length_append, List.length_cons, List.length_nil]; first | done | omega) _ _ _ _ (by rfl) rfl (H.o 0 rfl).rd (by simp only [List.length_append, List.length_cons, List.length_nil]; omega) ?_; (clear H; intro A1 c1 w1 H); simp only [List.set] at H) | (at_builtin; refine H.wlAppendBytes rfl _ _ rfl 2 _ _ _ _ (by rfl) rfl (by simp only [List.length_append, List.length_cons, List.length_nil]; first | done | omega) _ _ _ _ (by rfl) rfl (H.o 0 rfl).rd (by simp only [List.length_append, List.length_cons, List.length_nil]; omega) ?_; (clear H; intro A1 c1 w1 H); simp only [List.set] at H) | (at_builtin; refine H.wlAppendBytes rfl _ _ rfl 4 _ _ _ _ (by rfl) rfl (by simp only [List.length_append, List.length_cons, List.length_nil]; first | done | omega) _ _ _ _ (by rfl) rfl (H.o 0 rfl).rd (by simp only [List.length_append, List.length_cons, List.length_nil]; omega) ?_; (clear H; intro A1 c1 w1 H); simp only [List.set] at H) | (at_builtin; refine H.wlAppendBytes rfl _ _ rfl 5 _ _ _ _ (by rfl) rfl (by simp only [List.length_append, List.length_cons, List.length_nil]; first | done | omega) _ _ _ _ (by rfl) rfl (H.o 0 rfl).rd (by simp only [List.length_append, List.length_cons, List.length_nil]; omega) ?_; (clear H; intro A1 c1 w1 H); simp only [List.set] at H) | (at_builtin; refine H.wlAppendBytes rfl _ _ rfl 6 _ _ _ _ (by rfl) rfl (by simp only [List.length_append, List.length_cons, List.length_nil]; first | done | omega) _ _ _ _ (by rfl) rfl (H.o 0 rfl).rd (by simp only [List.length_append, List.length_cons, List.length_nil]; omega) ?_; (clear H; intro A1 c1 w1 H); simp only [List.set] at H)))
  rw [rounds_succ]
  go_wp2_with (first | (fail))
  go_ret2
  refine retBI_mk ?_ (by rw [HF.out]; exact H.o 6 rfl) H.below
  rw [HF.out]
  simp only [List.length_append, List.length_cons, List.length_nil]
  omega
theorem rbytes_any (e : En) (hsm : Sm e) (w : World) : Calls Tryd.prog 25 #[.agg (enC e).toArray] w (RetBI w (bytesL e) (bytesE e)) := by
  unfold bytesL bytesE
  cases hm : mayB e
  · rw [if_neg (by decide), if_neg (by decide)]
    exact rbytes_no e hsm hm w
  · rw [if_pos rfl, if_pos rfl]
    rcases may_bd hm with rfl | ⟨hk, h1, h2, h3, h4, h5, h6, h7, h8, h9, h10⟩
    · rw [show entL noop = [1] by decide]
      exact rbytes_noop w
    · obtain ⟨k, c, s, ok, s0, s1, s2⟩ := e
      simp only at hk h1 h2 h3 h4 h5 h6 h7 h8 h9 h10
      subst hk
      exact rbytes_two c s ok s0 s1 s2 hm hsm h1 (by omega) (by omega) (by omega) (by omega) w
end Go.Proofs.YtajgikjmoeemnaaDoor
