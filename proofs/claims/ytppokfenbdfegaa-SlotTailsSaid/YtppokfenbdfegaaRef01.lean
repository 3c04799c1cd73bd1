/-
  THE WALKS OF THE REFERENCE OF OCTET: each answers what the plain functions say; nothing that was there is written.
-/
import Derived.Test.YtppokfenbdfegaaOctPlain
import Derived.Test.YtppokfenbdfegaaSC
namespace Go.Proofs.Ytppokfenbdfegaa
open Go.RowKit

set_option maxHeartbeats 400000 in
theorem rwidth_any (n : Int) (w : World) : Calls Try.prog 32 #[.int .i64 n] w fun e w' => e = .returned (.bool (isWidth n)) ∧ w = w' := by
  go_enter Try.func32, Try.ntmps32
  go_wp2_with fail
  all_goals (go_ret; first | exact ⟨rfl, rfl⟩ | (subst_vars; exact ⟨rfl, rfl⟩))

set_option maxHeartbeats 400000 in
theorem rfits_any (width n : Int) (w : World) (h64 : n ≤ 9223372036854775807) : Calls Try.prog 29 #[.int .i64 width, .int .i64 n] w fun e w' => e = .returned (.bool (fitsB width n)) ∧ w = w' := by
  cases hw : isWidth width
  · have e : fitsB width n = false := by rw [fitsB_eq, hw]; rfl
    rw [e]
    have H := Lib.hid hw
    clear hw e
    go_enter Try.func29, Try.ntmps29
    go_wp2_with fail
    refine (rwidth_any _ _).mono ?_
    rw [H.out]
    rintro e w' ⟨rfl, rfl⟩
    go_wp2_with fail
    go_ret
    exact ⟨rfl, rfl⟩
  by_cases h0 : n < 0
  · have e : fitsB width n = false := by rw [fitsB_eq, decide_eq_false (show ¬ 0 ≤ n by omega)]; simp
    rw [e]
    have H := Lib.hid hw
    clear hw e
    go_enter Try.func29, Try.ntmps29
    go_wp2_with fail
    refine (rwidth_any _ _).mono ?_
    rw [H.out]
    rintro e w' ⟨rfl, rfl⟩
    go_wp2_with fail
    go_ret
    exact ⟨rfl, rfl⟩
  · obtain ⟨N, rfl⟩ := Int.eq_ofNat_of_zero_le (show 0 ≤ n by omega)
    obtain ⟨W, rfl⟩ := Int.eq_ofNat_of_zero_le (show 0 ≤ width by have := isWidth_bounds hw; omega)
    have hW : W ≤ 6 := by have := isWidth_bounds hw; omega
    have hN : N < 9223372036854775808 := by omega
    have H := Lib.hid hw
    clear hw h0
    go_enter Try.func29, Try.ntmps29
    go_wp2_with fail
    refine (rwidth_any _ _).mono ?_
    rw [H.out]
    rintro e w' ⟨rfl, rfl⟩
    go_wp2_with fail
    go_loop [1, 5] (fun a i => ∃ k q : Nat, k ≤ W ∧ q ≤ N ∧ Hid (q = N / 256 ^ k) ∧ i = .int .i64 k ∧ a = .int .i64 q) (fun _ i => W - (intOf i).toNat)
    case atStart => exact ⟨0, N, Nat.zero_le _, Nat.le_refl _, Lib.hid (by simp), rfl, rfl⟩
    case round =>
      obtain ⟨k, q, hk, hq, E, rfl, rfl⟩ := hrel
      by_cases hlt : k < W
      · go_wp2_with fail
        go_round
        case rel => exact ⟨k + 1, q / 256, by omega, by omega, Lib.hid (by rw [E.out, div_pow_succ]), by go_num, by go_num⟩
        case measure => simp [intOf]; omega
      · go_wp2_with fail
        go_ret
        obtain rfl : k = W := by omega
        refine ⟨ret_bool ?_, rfl⟩
        rw [fitsB_nat H.out, ← E.out]
        rw [Bool.eq_iff_iff, beq_iff_eq, decide_eq_true_eq]
        omega

set_option maxHeartbeats 400000 in
theorem rput_any (width n : Int) (w : World) (h64 : n ≤ 9223372036854775807) : Calls Try.prog 22 #[.int .i64 width, .int .i64 n] w (RetBI w (putL width n) (putE width n)) := by
  cases hf : fitsB width n
  · have E : RetBI w (putL width n) (putE width n) = RetBI w [] 2 := by simp [putL, putE, hf]
    rw [E]
    clear E
    have H := Lib.hid hf
    clear hf
    go_enter Try.func22, Try.ntmps22
    go_wp2_with fail
    refine (rfits_any _ _ _ h64).mono ?_
    rw [H.out]
    rintro e w' ⟨rfl, rfl⟩
    go_wp2_with fail
    go_ret2
    exact ⟨none, 0, rfl, Own.none_ _ _, Below.refl _ _⟩
  · have E : RetBI w (putL width n) (putE width n) = RetBI w (leB width.toNat n.toNat) 0 := by simp [putL, putE, hf]
    rw [E]
    clear E
    obtain ⟨_, h1, h2, h3, h4, _⟩ := fitsB_true hf
    obtain ⟨W, rfl⟩ := Int.eq_ofNat_of_zero_le h1
    obtain ⟨N, rfl⟩ := Int.eq_ofNat_of_zero_le h3
    have hN : N < 281474976710656 := by omega
    have hW : W ≤ 6 := by omega
    clear h1 h2 h3 h4
    have H := Lib.hid hf
    clear hf
    simp only [Int.toNat_natCast]
    go_enter Try.func22, Try.ntmps22
    go_wp2_with fail
    refine (rfits_any _ _ _ h64).mono ?_
    rw [H.out]
    rintro e w1 ⟨rfl, rfl⟩
    go_wp2_with fail
    go_loopw [1, 6, 7] (fun a v i wr => ∃ (k q : Nat) (A : Option Addr) (c : Nat) (L : List UInt8), k ≤ W ∧ q ≤ N ∧ Hid (q = N / 256 ^ k) ∧ Hid (L = leB k N) ∧ i = .int .i64 k ∧ a = .int .i64 q ∧ v = .slice A L.length c ∧ L.length ≤ 6 ∧ Own wr w.heap.size A c L ∧ Below w.heap.size w wr) (fun _ _ i _ => W - (intOf i).toNat)
    case atStart => exact ⟨0, N, none, 0, [], Nat.zero_le _, Nat.le_refl _, Lib.hid (by simp), Lib.hid rfl, rfl, rfl, rfl, by simp, Own.none_ _ _, Below.refl _ _⟩
    case round =>
      obtain ⟨k, q, A, c, L, hk, hq, E, HL, rfl, rfl, rfl, hL6, hown, hb⟩ := hrel
      have hz := hb.size
      by_cases hlt : k < W
      · go_wp2_with (at_builtin; refine wpList_append_bytes _ rfl _ _ rfl w.heap.size A L.length c L rfl rfl (hown.alloc _) (some ⟨wr.heap.size, 0, none⟩) 1 1 [UInt8.ofNat q] rfl rfl (rd_lit _ _ _ ?_) ?_ ?_ ?_)
        · simp [bvs]
        · simp; omega
        · simp; omega
        intro A1 c1 w1 hown1 hb1 _
        go_wp2_with fail
        go_roundw
        case measure => simp [intOf]; omega
        case rel =>
          refine ⟨k + 1, q / 256, A1, c1, L ++ [UInt8.ofNat q], by omega, by omega, Lib.hid (by rw [E.out, div_pow_succ]), Lib.hid (by rw [leB_succ, HL.out, E.out]), by go_num, by go_num, by simp, ?_, hown1, (hb.alloc hz _).trans hb1⟩
          rw [HL.out]; simp [leB_length]; omega
      · go_wp2_with fail
        go_ret2
        obtain rfl : k = W := by omega
        exact ⟨A, c, by rw [← HL.out]; rfl, by rw [← HL.out]; exact hown, hb⟩

set_option maxHeartbeats 400000 in
theorem rget_any (A : Option Addr) (c : Nat) (l : List UInt8) (at_ width : Int) (w : World) (hr : Rd w A l) (hc : l.length ≤ maxLen) :
    Calls Try.prog 24 #[.slice A l.length c, .int .i64 at_, .int .i64 width] w fun e w' => e = .returned (.tuple #[.int .i64 (getN l at_ width), .int .i64 (getP l at_ width), .int .i64 (getE l at_ width)]) ∧ w = w' := by
  unfold maxLen at hc
  cases hw : isWidth width
  · have e1 : getN l at_ width = 0 := by simp [getN, getE, hw]
    have e2 : getP l at_ width = 0 := by simp [getP, getE, hw]
    have e3 : getE l at_ width = 2 := by simp [getE, hw]
    rw [e1, e2, e3]
    have H := Lib.hid hw
    clear hw e1 e2 e3
    go_enter Try.func24, Try.ntmps24
    go_wp2_with fail
    refine (rwidth_any _ _).mono ?_
    rw [H.out]
    rintro e w1 ⟨rfl, rfl⟩
    go_wp2_with fail
    go_ret3
    exact ⟨rfl, rfl⟩
  by_cases h1 : at_ < 0
  · have e3 : getE l at_ width = 2 := by simp [getE, hw, h1]
    have e1 : getN l at_ width = 0 := by simp [getN, e3]
    have e2 : getP l at_ width = 0 := by simp [getP, e3]
    rw [e1, e2, e3]
    have H := Lib.hid hw
    clear hw e1 e2 e3
    go_enter Try.func24, Try.ntmps24
    go_wp2_with fail
    refine (rwidth_any _ _).mono ?_
    rw [H.out]
    rintro e w1 ⟨rfl, rfl⟩
    go_wp2_with fail
    go_ret3
    exact ⟨rfl, rfl⟩
  by_cases h2 : (l.length : Int) < at_
  · have e3 : getE l at_ width = 2 := by simp [getE, hw, h2]
    have e1 : getN l at_ width = 0 := by simp [getN, e3]
    have e2 : getP l at_ width = 0 := by simp [getP, e3]
    rw [e1, e2, e3]
    have H := Lib.hid hw
    clear hw e1 e2 e3
    go_enter Try.func24, Try.ntmps24
    go_wp2_with fail
    refine (rwidth_any _ _).mono ?_
    rw [H.out]
    rintro e w1 ⟨rfl, rfl⟩
    go_wp2_with fail
    go_ret3
    exact ⟨rfl, rfl⟩
  by_cases h3 : (l.length : Int) - at_ < width
  · have e3 : getE l at_ width = 10 := by simp [getE, hw, h1, h2, h3]
    have e1 : getN l at_ width = 0 := by simp [getN, e3]
    have e2 : getP l at_ width = 0 := by simp [getP, e3]
    rw [e1, e2, e3]
    have H := Lib.hid hw
    clear hw e1 e2 e3
    go_enter Try.func24, Try.ntmps24
    go_wp2_with fail
    refine (rwidth_any _ _).mono ?_
    rw [H.out]
    rintro e w1 ⟨rfl, rfl⟩
    go_wp2_with fail
    go_ret3
    exact ⟨rfl, rfl⟩
  obtain ⟨a, rfl⟩ := Int.eq_ofNat_of_zero_le (show 0 ≤ at_ by omega)
  have hwb := isWidth_bounds hw
  obtain ⟨W, rfl⟩ := Int.eq_ofNat_of_zero_le (show 0 ≤ width by omega)
  have e3 : getE l a W = 0 := by simp [getE, hw, h1, h2, h3]
  obtain ⟨L, HL⟩ : ∃ L, Hid (L = (l.drop a).take W) := ⟨_, Lib.hid rfl⟩
  have hln : a + W ≤ l.length := by omega
  have hLl : Hid (L.length = W) := Lib.hid (by rw [HL.out]; simp; omega)
  have e1 : getN l a W = leN L := by simp [getN, e3, HL.out]
  have e2 : getP l a W = (a : Int) + W := by simp [getP, e3]
  rw [e1, e2, e3]
  have hW1 : 1 ≤ W := by omega
  have hW6 : W ≤ 6 := by omega
  have H := Lib.hid hw
  clear hw e1 e2 e3 h1 hwb
  go_enter Try.func24, Try.ntmps24
  go_wp2_with fail
  refine (rwidth_any _ _).mono ?_
  rw [H.out]
  rintro e w1 ⟨rfl, rfl⟩
  go_wp2_with fail
  go_loop [9, 10, 11] (fun n v i => ∃ k q x : Nat, k ≤ W ∧ i = .int .i64 k ∧ n = .int .i64 q ∧ v = .int .i64 x ∧ q < x ∧ x ≤ 281474976710656 ∧ Hid (x = 256 ^ k) ∧ Hid (q = leN (L.take k))) (fun _ _ i => W - (intOf i).toNat)
  case atStart => exact ⟨0, 0, 1, by omega, rfl, rfl, rfl, by omega, by omega, Lib.hid rfl, Lib.hid rfl⟩
  case round =>
    obtain ⟨k, q, x, hk, rfl, rfl, rfl, hq, hx48, HX, HQ⟩ := hrel
    by_cases hlt : k < W
    · have hx40 : x ≤ 1099511627776 := by
        have : 256 ^ k ≤ 256 ^ 5 := Nat.pow_le_pow_right (by omega) (by omega)
        rw [HX.out]; omega
      obtain ⟨b, o, rfl, hcl⟩ := hr.at_ (k := a + k) (by omega)
      have hcell := hcl (a + k) (by omega)
      have hlk : l[a + k]'(by omega) = L[k]'(by have := hLl.out; omega) := by simp [HL.out]
      rw [hlk] at hcell
      have hlt2 := (L[k]'(by have := hLl.out; omega)).toNat_lt
      obtain ⟨y, HY⟩ : ∃ y, Hid (y = (L[k]'(by have := hLl.out; omega)).toNat) := ⟨_, Lib.hid rfl⟩
      rw [← HY.out] at hcell hlt2
      have hxy : x * y ≤ 1099511627776 * 255 := Nat.mul_le_mul hx40 (by omega)
      obtain ⟨p, HP⟩ : ∃ p, Hid (p = x * y) := ⟨_, Lib.hid rfl⟩
      have hp0 : (0 : Int) ≤ (x : Int) * y := by rw [← Int.natCast_mul]; omega
      have hp1 : (x : Int) * y ≤ 1099511627776 * 255 := by rw [← Int.natCast_mul]; omega
      clear hcl hlk hxy
      go_wp2_with fail
      go_round
      case measure => simp [intOf]; omega
      case rel =>
        have hq2 : q + x * y < 256 * x := by
          have : x * y ≤ x * 255 := Nat.mul_le_mul_left _ (by omega)
          omega
        refine ⟨k + 1, q + x * y, 256 * x, by omega, by go_num, by rw [Int.natCast_add, Int.natCast_mul], by rw [Int.natCast_mul]; rfl, hq2, by omega, Lib.hid (by rw [HX.out, Nat.pow_succ, Nat.mul_comm]), Lib.hid ?_⟩
        rw [List.take_succ_eq_append_getElem (by have := hLl.out; omega), leN_append, HQ.out, HX.out, HY.out]
        have := hLl.out
        rw [List.length_take, Nat.min_eq_left (by omega), leN, leN, Nat.mul_zero, Nat.add_zero]
    · obtain rfl : k = W := by omega
      go_wp2_with fail
      go_ret3
      have e := HQ.out
      rw [List.take_of_length_le (by have := hLl.out; omega)] at e
      exact ⟨by rw [← e]; rfl, rfl⟩

end Go.Proofs.Ytppokfenbdfegaa
