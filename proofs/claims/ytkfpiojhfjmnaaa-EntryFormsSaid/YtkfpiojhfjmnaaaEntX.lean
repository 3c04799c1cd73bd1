/-
  THE WALK OF THE LAW EntryForms.
-/
import Derived.Test.YtkfpiojhfjmnaaaEntT
import Derived.Test.YtkfpiojhfjmnaaaEntL
namespace Go.Proofs.Ytkfpiojhfjmnaaa
open Go.RowKit
set_option linter.unusedVariables false
set_option linter.unusedSimpArgs false
theorem HpS.o {w0 : World} {L : List Item} (x : HpS w0 L) (i : Nat) {A : Option Addr} {c : Nat} {l : List UInt8} (hL : L[i]? = some (.bytes A c l)) : Rd x.val A l := (x.2.o i hL).rd
set_option maxRecDepth 100000 in
set_option maxHeartbeats 4000000 in
theorem forms_in (r p : Int) (e : En) (hsm : Sm e) (hu : U8 e) (hr64 : r ≤ 9223372036854775807) (w : World) : Calls Try.prog 3 #[.agg #[.int .i64 r, .int .i64 p], .agg (enC e).toArray] w (RetV w (.bool true)) := by
  have H := Hp.nil w
  cases hgr : grB e
  · obtain ⟨z0, z1, z2⟩ := id hsm
    have HY1 : Hid (∀ w, _) := Lib.hid (fun w => ebytes_any e hsm hu w)
    have HY2 : Hid (∀ w, _) := Lib.hid (fun w => rbytes_any e hsm w)
    have HP1 : Hid (∀ w, _) := Lib.hid (fun w => eprint_any r p e hsm hu w)
    have HP2 : Hid (∀ w, _) := Lib.hid (fun w => rprint_any r p e hsm hr64 w)
    have hXm : (bytesL e).length ≤ maxLen := by
      have := entL_length_le e
      unfold bytesL maxLen
      split
      · omega
      · simp
    have hZm : (bodyL r p e).length ≤ maxLen := by
      have h1 := entL_length_le e
      have h2 := putL_length6 6 r
      have h3 := putL_length6 1 p
      unfold bodyL maxLen
      split
      · simp only [List.length_append]; omega
      · simp
    obtain ⟨X, hX⟩ : ∃ x, bytesL e = x := ⟨_, rfl⟩
    obtain ⟨Z, hZ⟩ : ∃ x, bodyL r p e = x := ⟨_, rfl⟩
    obtain ⟨x, hx⟩ : ∃ x, bytesE e = x := ⟨_, rfl⟩
    obtain ⟨z, hz⟩ : ∃ x, bodyE r p e = x := ⟨_, rfl⟩
    rw [hX, hx] at HY1 HY2
    rw [hZ, hz] at HP1 HP2
    rw [hX] at hXm
    rw [hZ] at hZm
    clear hX hx hZ hz
    cases ho : mayOpB e.ok e.s0 e.s1 e.s2
    all_goals
      cases hm : mayB e
      all_goals
        go_enter Try.func3, Try.ntmps3
        go_wp2_with (first | ((with_reducible refine Hp.box H ?_); refine ⟨rfl, _, rfl, ?_⟩; (clear H; intro g1 w1 H); go_frame) | ((with_reducible refine Hp.allo H ?_); refine ⟨rfl, ?_⟩; refine ⟨_, z_look rfl, ?_⟩; (clear H; intro g1 w1 H); go_frame) | ((with_reducible refine Hp.ld H ?_); refine ⟨rfl, ?_⟩; refine ⟨c_look rfl, ?_⟩; refine ⟨_, _, rfl, ?_⟩; ((repeat ((fail_if_success refine ⟨_, _, _, .z, ?_⟩); refine hs ?_)); refine ⟨_, _, _, .z, ?_⟩); refine ⟨_, rfl, ?_⟩; go_frame) | ((with_reducible refine Hp.lda H ?_); refine ⟨rfl, by kernel_rfl, ?_⟩; refine ⟨_, s_look rfl, ?_⟩; refine ⟨_, rfl, ?_⟩; ((repeat ((fail_if_success refine ⟨_, _, _, .z, ?_⟩); refine hs ?_)); refine ⟨_, _, _, .z, ?_⟩); refine ⟨rfl, ?_⟩; go_frame) | ((with_reducible refine Hp.lds H ?_); refine ⟨rfl, by kernel_rfl, ?_⟩; refine ⟨_, s_look rfl, ?_⟩; refine ⟨_, _, rfl, ?_⟩; ((repeat ((fail_if_success refine ⟨_, _, _, .z, ?_⟩); refine hs ?_)); refine ⟨_, _, _, .z, ?_⟩); refine ⟨opC e.ok e.s0 e.s1 e.s2, rfl, rfl, ?_⟩; go_frame) | ((with_reducible refine Hp.sto H ?_); refine ⟨rfl, ?_⟩; refine ⟨c_look rfl, ?_⟩; refine ⟨_, _, rfl, ?_⟩; ((repeat ((fail_if_success refine ⟨_, _, _, .z, ?_⟩); refine hs ?_)); refine ⟨_, _, _, .z, ?_⟩); refine ⟨⟨_, rfl⟩, rfl, ?_⟩; (clear H; intro w1 H; simp only [List.set] at H); go_frame) | ((with_reducible refine Hp.sta H ?_); refine ⟨rfl, ?_⟩; refine ⟨_, s_look rfl, ?_⟩; refine ⟨_, rfl, _, rfl, rfl, ?_⟩; ((repeat ((fail_if_success refine ⟨_, _, _, .z, ?_⟩); refine hs ?_)); refine ⟨_, _, _, .z, ?_⟩); refine ⟨rfl, rfl, ?_⟩; (clear H; intro w1 H; simp only [List.set] at H); go_frame) | ((with_reducible refine Hp.str H ?_); refine ⟨rfl, ?_⟩; refine ⟨_, s_look rfl, ?_⟩; refine ⟨_, _, rfl, _, rfl, rfl, ?_⟩; ((repeat ((fail_if_success refine ⟨_, _, _, .z, ?_⟩); refine hs ?_)); refine ⟨_, _, _, .z, ?_⟩); refine ⟨rfl, _, rfl, _, rfl, Nat.le_of_ble_eq_true rfl, ?_⟩; (clear H; intro w1 H; simp only [List.set] at H); go_frame) | ((with_reducible refine Hp.bdl H ?_); (fail); go_frame) | ((with_reducible refine (great_b e _ _ hgr hsm).mono ?_); rintro _ w1 ⟨rfl, hb⟩; replace H := H.call hb; clear hb) | ((with_reducible refine (HY1.out _).mono ?_); rintro _ w1 ⟨A1, c1, rfl, hown, hb⟩; replace H := H.callOwn hb hown; clear hb hown) | ((with_reducible refine (HY2.out _).mono ?_); rintro _ w1 ⟨A1, c1, rfl, hown, hb⟩; replace H := H.callOwn hb hown; clear hb hown) | ((with_reducible refine (HP1.out _).mono ?_); rintro _ w1 ⟨A1, c1, rfl, hown, hb⟩; replace H := H.callOwn hb hown; clear hb hown) | ((with_reducible refine (HP2.out _).mono ?_); rintro _ w1 ⟨A1, c1, rfl, hown, hb⟩; replace H := H.callOwn hb hown; clear hb hown))
        ((with_reducible refine wp_region_hpK H (by kernel_rfl) (by kernel_rfl) ?_); intro _ KQ hKQ; (repeat (first | go_big_quiet_skip | ((with_reducible refine hq_ld ?_); refine ⟨rfl, ?_⟩; refine ⟨c_look rfl, ?_⟩; refine ⟨_, _, rfl, ?_⟩; ((repeat ((fail_if_success refine ⟨_, _, _, .z, ?_⟩); refine hs ?_)); refine ⟨_, _, _, .z, ?_⟩); refine ⟨_, rfl, ?_⟩; go_frame) | ((with_reducible refine hq_lda ?_); refine ⟨rfl, by kernel_rfl, ?_⟩; refine ⟨_, s_look rfl, ?_⟩; refine ⟨_, rfl, ?_⟩; ((repeat ((fail_if_success refine ⟨_, _, _, .z, ?_⟩); refine hs ?_)); refine ⟨_, _, _, .z, ?_⟩); refine ⟨rfl, ?_⟩; go_frame) | ((with_reducible refine hq_lds ?_); refine ⟨rfl, by kernel_rfl, ?_⟩; refine ⟨_, s_look rfl, ?_⟩; refine ⟨_, _, rfl, ?_⟩; ((repeat ((fail_if_success refine ⟨_, _, _, .z, ?_⟩); refine hs ?_)); refine ⟨_, _, _, .z, ?_⟩); refine ⟨opC e.ok e.s0 e.s1 e.s2, rfl, rfl, ?_⟩; go_frame) | ((with_reducible refine hq_bdl ?_); (fail); go_frame) | (fail) | go_big_quiet_step ((first | (with_reducible exact hq_call (mayOp_b _ _ _ _ _ _ ho z0 z1 z2)) | (with_reducible exact hq_call (rmayOp_b _ _ _ _ _ _ ho z0 z1 z2)) | (with_reducible exact hq_call (may_b e _ _ hm hsm)) | (with_reducible exact hq_call (rmay_b e _ _ hm hsm)) | (with_reducible exact hq_call (same_self _ _ _ _ X _ _ _ (HpS.o _ 3 rfl) (HpS.o _ 2 rfl) hXm rfl rfl)) | (with_reducible exact hq_call (same_self _ _ _ _ Z _ _ _ (HpS.o _ 1 rfl) (HpS.o _ 0 rfl) hZm rfl rfl)))))); (with_reducible refine wpQuiet_nil (hKQ _ ?_)); clear hKQ; clear KQ H; intro w1 H)
        go_wp2_with (first | ((with_reducible refine Hp.box H ?_); refine ⟨rfl, _, rfl, ?_⟩; (clear H; intro g1 w1 H); go_frame) | ((with_reducible refine Hp.allo H ?_); refine ⟨rfl, ?_⟩; refine ⟨_, z_look rfl, ?_⟩; (clear H; intro g1 w1 H); go_frame) | ((with_reducible refine Hp.ld H ?_); refine ⟨rfl, ?_⟩; refine ⟨c_look rfl, ?_⟩; refine ⟨_, _, rfl, ?_⟩; ((repeat ((fail_if_success refine ⟨_, _, _, .z, ?_⟩); refine hs ?_)); refine ⟨_, _, _, .z, ?_⟩); refine ⟨_, rfl, ?_⟩; go_frame) | ((with_reducible refine Hp.lda H ?_); refine ⟨rfl, by kernel_rfl, ?_⟩; refine ⟨_, s_look rfl, ?_⟩; refine ⟨_, rfl, ?_⟩; ((repeat ((fail_if_success refine ⟨_, _, _, .z, ?_⟩); refine hs ?_)); refine ⟨_, _, _, .z, ?_⟩); refine ⟨rfl, ?_⟩; go_frame) | ((with_reducible refine Hp.lds H ?_); refine ⟨rfl, by kernel_rfl, ?_⟩; refine ⟨_, s_look rfl, ?_⟩; refine ⟨_, _, rfl, ?_⟩; ((repeat ((fail_if_success refine ⟨_, _, _, .z, ?_⟩); refine hs ?_)); refine ⟨_, _, _, .z, ?_⟩); refine ⟨opC e.ok e.s0 e.s1 e.s2, rfl, rfl, ?_⟩; go_frame) | ((with_reducible refine Hp.sto H ?_); refine ⟨rfl, ?_⟩; refine ⟨c_look rfl, ?_⟩; refine ⟨_, _, rfl, ?_⟩; ((repeat ((fail_if_success refine ⟨_, _, _, .z, ?_⟩); refine hs ?_)); refine ⟨_, _, _, .z, ?_⟩); refine ⟨⟨_, rfl⟩, rfl, ?_⟩; (clear H; intro w1 H; simp only [List.set] at H); go_frame) | ((with_reducible refine Hp.sta H ?_); refine ⟨rfl, ?_⟩; refine ⟨_, s_look rfl, ?_⟩; refine ⟨_, rfl, _, rfl, rfl, ?_⟩; ((repeat ((fail_if_success refine ⟨_, _, _, .z, ?_⟩); refine hs ?_)); refine ⟨_, _, _, .z, ?_⟩); refine ⟨rfl, rfl, ?_⟩; (clear H; intro w1 H; simp only [List.set] at H); go_frame) | ((with_reducible refine Hp.str H ?_); refine ⟨rfl, ?_⟩; refine ⟨_, s_look rfl, ?_⟩; refine ⟨_, _, rfl, _, rfl, rfl, ?_⟩; ((repeat ((fail_if_success refine ⟨_, _, _, .z, ?_⟩); refine hs ?_)); refine ⟨_, _, _, .z, ?_⟩); refine ⟨rfl, _, rfl, _, rfl, Nat.le_of_ble_eq_true rfl, ?_⟩; (clear H; intro w1 H; simp only [List.set] at H); go_frame) | ((with_reducible refine Hp.bdl H ?_); (fail); go_frame) | ((with_reducible refine (great_b e _ _ hgr hsm).mono ?_); rintro _ w1 ⟨rfl, hb⟩; replace H := H.call hb; clear hb) | ((with_reducible refine (HY1.out _).mono ?_); rintro _ w1 ⟨A1, c1, rfl, hown, hb⟩; replace H := H.callOwn hb hown; clear hb hown) | ((with_reducible refine (HY2.out _).mono ?_); rintro _ w1 ⟨A1, c1, rfl, hown, hb⟩; replace H := H.callOwn hb hown; clear hb hown) | ((with_reducible refine (HP1.out _).mono ?_); rintro _ w1 ⟨A1, c1, rfl, hown, hb⟩; replace H := H.callOwn hb hown; clear hb hown) | ((with_reducible refine (HP2.out _).mono ?_); rintro _ w1 ⟨A1, c1, rfl, hown, hb⟩; replace H := H.callOwn hb hown; clear hb hown))
        go_ret
        exact ⟨rfl, H.below⟩
  · go_enter Try.func3, Try.ntmps3
    go_wp2_with (first | ((with_reducible refine Hp.box H ?_); refine ⟨rfl, _, rfl, ?_⟩; (clear H; intro g1 w1 H); go_frame) | ((with_reducible refine Hp.allo H ?_); refine ⟨rfl, ?_⟩; refine ⟨_, z_look rfl, ?_⟩; (clear H; intro g1 w1 H); go_frame) | ((with_reducible refine Hp.ld H ?_); refine ⟨rfl, ?_⟩; refine ⟨c_look rfl, ?_⟩; refine ⟨_, _, rfl, ?_⟩; ((repeat ((fail_if_success refine ⟨_, _, _, .z, ?_⟩); refine hs ?_)); refine ⟨_, _, _, .z, ?_⟩); refine ⟨_, rfl, ?_⟩; go_frame) | ((with_reducible refine Hp.lda H ?_); refine ⟨rfl, by kernel_rfl, ?_⟩; refine ⟨_, s_look rfl, ?_⟩; refine ⟨_, rfl, ?_⟩; ((repeat ((fail_if_success refine ⟨_, _, _, .z, ?_⟩); refine hs ?_)); refine ⟨_, _, _, .z, ?_⟩); refine ⟨rfl, ?_⟩; go_frame) | ((with_reducible refine Hp.lds H ?_); refine ⟨rfl, by kernel_rfl, ?_⟩; refine ⟨_, s_look rfl, ?_⟩; refine ⟨_, _, rfl, ?_⟩; ((repeat ((fail_if_success refine ⟨_, _, _, .z, ?_⟩); refine hs ?_)); refine ⟨_, _, _, .z, ?_⟩); refine ⟨opC e.ok e.s0 e.s1 e.s2, rfl, rfl, ?_⟩; go_frame) | ((with_reducible refine Hp.sto H ?_); refine ⟨rfl, ?_⟩; refine ⟨c_look rfl, ?_⟩; refine ⟨_, _, rfl, ?_⟩; ((repeat ((fail_if_success refine ⟨_, _, _, .z, ?_⟩); refine hs ?_)); refine ⟨_, _, _, .z, ?_⟩); refine ⟨⟨_, rfl⟩, rfl, ?_⟩; (clear H; intro w1 H; simp only [List.set] at H); go_frame) | ((with_reducible refine Hp.sta H ?_); refine ⟨rfl, ?_⟩; refine ⟨_, s_look rfl, ?_⟩; refine ⟨_, rfl, _, rfl, rfl, ?_⟩; ((repeat ((fail_if_success refine ⟨_, _, _, .z, ?_⟩); refine hs ?_)); refine ⟨_, _, _, .z, ?_⟩); refine ⟨rfl, rfl, ?_⟩; (clear H; intro w1 H; simp only [List.set] at H); go_frame) | ((with_reducible refine Hp.str H ?_); refine ⟨rfl, ?_⟩; refine ⟨_, s_look rfl, ?_⟩; refine ⟨_, _, rfl, _, rfl, rfl, ?_⟩; ((repeat ((fail_if_success refine ⟨_, _, _, .z, ?_⟩); refine hs ?_)); refine ⟨_, _, _, .z, ?_⟩); refine ⟨rfl, _, rfl, _, rfl, Nat.le_of_ble_eq_true rfl, ?_⟩; (clear H; intro w1 H; simp only [List.set] at H); go_frame) | ((with_reducible refine Hp.bdl H ?_); (fail); go_frame) | ((with_reducible refine (great_b e _ _ hgr hsm).mono ?_); rintro _ w1 ⟨rfl, hb⟩; replace H := H.call hb; clear hb) | ((with_reducible refine (HY1.out _).mono ?_); rintro _ w1 ⟨A1, c1, rfl, hown, hb⟩; replace H := H.callOwn hb hown; clear hb hown) | ((with_reducible refine (HY2.out _).mono ?_); rintro _ w1 ⟨A1, c1, rfl, hown, hb⟩; replace H := H.callOwn hb hown; clear hb hown) | ((with_reducible refine (HP1.out _).mono ?_); rintro _ w1 ⟨A1, c1, rfl, hown, hb⟩; replace H := H.callOwn hb hown; clear hb hown) | ((with_reducible refine (HP2.out _).mono ?_); rintro _ w1 ⟨A1, c1, rfl, hown, hb⟩; replace H := H.callOwn hb hown; clear hb hown))
    go_ret
    exact ⟨rfl, H.below⟩
theorem entryForms_walk (r p : Int) (k : Nat) (ec es : Int) (ok : Nat) (s0 s1 s2 : ByteArray) (w : World) (b0 : -9223372036854775808 ≤ r) (b1 : r ≤ 9223372036854775807) (b2 : -9223372036854775808 ≤ p) (b3 : p ≤ 9223372036854775807)
    (hk : k < 2 ^ IntKind.u8.bits) (b4 : -9223372036854775808 ≤ ec) (b5 : ec ≤ 9223372036854775807) (b6 : -9223372036854775808 ≤ es) (b7 : es ≤ 9223372036854775807) (hok : ok < 2 ^ IntKind.u8.bits) (z0 : s0.size ≤ maxLen) (z1 : s1.size ≤ maxLen) (z2 : s2.size ≤ maxLen) :
    Calls Try.prog 3 #[.agg #[.int .i64 r, .int .i64 p], .agg #[.int .u8 k, .int .i64 ec, .int .i64 es, .int .u8 ok, .string s0, .string s1, .string s2]] w (RetV w (.bool true)) := by
  simp only [IntKind.bits] at hk hok
  exact forms_in r p ⟨k, ec, es, ok, s0, s1, s2⟩ ⟨z0, z1, z2⟩ ⟨by show (0 : Int) ≤ k; omega, by show (k : Int) < 256; omega, by show (0 : Int) ≤ ok; omega, by show (ok : Int) < 256; omega⟩ b1 w
end Go.Proofs.Ytkfpiojhfjmnaaa
