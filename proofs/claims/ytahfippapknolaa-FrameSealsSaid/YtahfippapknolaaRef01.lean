/-
  THE WALKS OF THE REFERENCE OF OCTET: each answers what the plain functions say; nothing that was there is written.
-/
import Derived.Test.YtahfippapknolaaOctPlain
import Derived.Test.YtahfippapknolaaSC
namespace Go.Proofs.Ytahfippapknolaa
open Go.RowKit

set_option maxHeartbeats 400000 in
theorem rwidth_any (n : Int) (w : World) : Calls Try.prog 29 #[.int .i64 n] w fun e w' => e = .returned (.bool (isWidth n)) ∧ w = w' := by
  go_enter Try.func29, Try.ntmps29
  go_wp2_with fail
  all_goals (go_ret; first | exact ⟨rfl, rfl⟩ | (subst_vars; exact ⟨rfl, rfl⟩))

set_option maxHeartbeats 400000 in
theorem rfits_any (width n : Int) (w : World) (h64 : n ≤ 9223372036854775807) : Calls Try.prog 22 #[.int .i64 width, .int .i64 n] w fun e w' => e = .returned (.bool (fitsB width n)) ∧ w = w' := by
  cases hw : isWidth width
  · have e : fitsB width n = false := by rw [fitsB_eq, hw]; rfl
    rw [e]
    have H := Lib.hid hw
    clear hw e
    go_enter Try.func22, Try.ntmps22
    go_wp2_with fail
    refine (rwidth_any _ _).mono ?_
    rw [H.out]
    rintro e w' ⟨rfl, rfl⟩
    go_wp2_with fail
    go_ret
    exact ⟨rfl, rfl⟩
  by_cases h0 : n < 0
  · have e : fitsB width n = false := by rw [fitsB_eq, decide_eq_false (show ¬ 0 ≤ n by omega)]; simp
    rw [e]
    have H := Lib.hid hw
    clear hw e
    go_enter Try.func22, Try.ntmps22
    go_wp2_with fail
    refine (rwidth_any _ _).mono ?_
    rw [H.out]
    rintro e w' ⟨rfl, rfl⟩
    go_wp2_with fail
    go_ret
    exact ⟨rfl, rfl⟩
  · obtain ⟨N, rfl⟩ := Int.eq_ofNat_of_zero_le (show 0 ≤ n by omega)
    obtain ⟨W, rfl⟩ := Int.eq_ofNat_of_zero_le (show 0 ≤ width by have := isWidth_bounds hw; omega)
    have hW : W ≤ 6 := by have := isWidth_bounds hw; omega
    have hN : N < 9223372036854775808 := by omega
    have H := Lib.hid hw
    clear hw h0
    go_enter Try.func22, Try.ntmps22
    go_wp2_with fail
    refine (rwidth_any _ _).mono ?_
    rw [H.out]
    rintro e w' ⟨rfl, rfl⟩
    go_wp2_with fail
    go_loop [1, 5] (fun a i => ∃ k q : Nat, k ≤ W ∧ q ≤ N ∧ Hid (q = N / 256 ^ k) ∧ i = .int .i64 k ∧ a = .int .i64 q) (fun _ i => W - (intOf i).toNat)
    case atStart => exact ⟨0, N, Nat.zero_le _, Nat.le_refl _, Lib.hid (by simp), rfl, rfl⟩
    case round =>
      obtain ⟨k, q, hk, hq, E, rfl, rfl⟩ := hrel
      by_cases hlt : k < W
      · go_wp2_with fail
        go_round
        case rel => exact ⟨k + 1, q / 256, by omega, by omega, Lib.hid (by rw [E.out, div_pow_succ]), by go_num, by go_num⟩
        case measure => simp [intOf]; omega
      · go_wp2_with fail
        go_ret
        obtain rfl : k = W := by omega
        refine ⟨ret_bool ?_, rfl⟩
        rw [fitsB_nat H.out, ← E.out]
        rw [Bool.eq_iff_iff, beq_iff_eq, decide_eq_true_eq]
        omega

set_option maxHeartbeats 400000 in
theorem rput_any (width n : Int) (w : World) (h64 : n ≤ 9223372036854775807) : Calls Try.prog 15 #[.int .i64 width, .int .i64 n] w (RetBI w (putL width n) (putE width n)) := by
  cases hf : fitsB width n
  · have E : RetBI w (putL width n) (putE width n) = RetBI w [] 2 := by simp [putL, putE, hf]
    rw [E]
    clear E
    have H := Lib.hid hf
    clear hf
    go_enter Try.func15, Try.ntmps15
    go_wp2_with fail
    refine (rfits_any _ _ _ h64).mono ?_
    rw [H.out]
    rintro e w' ⟨rfl, rfl⟩
    go_wp2_with fail
    go_ret2
    exact ⟨none, 0, rfl, Own.none_ _ _, Below.refl _ _⟩
  · have E : RetBI w (putL width n) (putE width n) = RetBI w (leB width.toNat n.toNat) 0 := by simp [putL, putE, hf]
    rw [E]
    clear E
    obtain ⟨_, h1, h2, h3, h4, _⟩ := fitsB_true hf
    obtain ⟨W, rfl⟩ := Int.eq_ofNat_of_zero_le h1
    obtain ⟨N, rfl⟩ := Int.eq_ofNat_of_zero_le h3
    have hN : N < 281474976710656 := by omega
    have hW : W ≤ 6 := by omega
    clear h1 h2 h3 h4
    have H := Lib.hid hf
    clear hf
    simp only [Int.toNat_natCast]
    go_enter Try.func15, Try.ntmps15
    go_wp2_with fail
    refine (rfits_any _ _ _ h64).mono ?_
    rw [H.out]
    rintro e w1 ⟨rfl, rfl⟩
    go_wp2_with fail
    go_loopw [1, 6, 7] (fun a v i wr => ∃ (k q : Nat) (A : Option Addr) (c : Nat) (L : List UInt8), k ≤ W ∧ q ≤ N ∧ Hid (q = N / 256 ^ k) ∧ Hid (L = leB k N) ∧ i = .int .i64 k ∧ a = .int .i64 q ∧ v = .slice A L.length c ∧ L.length ≤ 6 ∧ Own wr w.heap.size A c L ∧ Below w.heap.size w wr) (fun _ _ i _ => W - (intOf i).toNat)
    case atStart => exact ⟨0, N, none, 0, [], Nat.zero_le _, Nat.le_refl _, Lib.hid (by simp), Lib.hid rfl, rfl, rfl, rfl, by simp, Own.none_ _ _, Below.refl _ _⟩
    case round =>
      obtain ⟨k, q, A, c, L, hk, hq, E, HL, rfl, rfl, rfl, hL6, hown, hb⟩ := hrel
      have hz := hb.size
      by_cases hlt : k < W
      · go_wp2_with (at_builtin; refine wpList_append_bytes _ rfl _ _ rfl w.heap.size A L.length c L rfl rfl (hown.alloc _) (some ⟨wr.heap.size, 0, none⟩) 1 1 [UInt8.ofNat q] rfl rfl (rd_lit _ _ _ ?_) ?_ ?_ ?_)
        · simp [bvs]
        · simp; omega
        · simp; omega
        intro A1 c1 w1 hown1 hb1 _
        go_wp2_with fail
        go_roundw
        case measure => simp [intOf]; omega
        case rel =>
          refine ⟨k + 1, q / 256, A1, c1, L ++ [UInt8.ofNat q], by omega, by omega, Lib.hid (by rw [E.out, div_pow_succ]), Lib.hid (by rw [leB_succ, HL.out, E.out]), by go_num, by go_num, by simp, ?_, hown1, (hb.alloc hz _).trans hb1⟩
          rw [HL.out]; simp [leB_length]; omega
      · go_wp2_with fail
        go_ret2
        obtain rfl : k = W := by omega
        exact ⟨A, c, by rw [← HL.out]; rfl, by rw [← HL.out]; exact hown, hb⟩

end Go.Proofs.Ytahfippapknolaa
