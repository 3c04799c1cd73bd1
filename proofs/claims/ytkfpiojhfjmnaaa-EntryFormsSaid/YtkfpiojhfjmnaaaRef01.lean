/-
  THE WALKS OF THE REFERENCE OF OCTET: each answers what the plain functions say; nothing that was there is written.
-/
import Derived.Test.YtkfpiojhfjmnaaaOctPlain
import Derived.Test.YtkfpiojhfjmnaaaSC
namespace Go.Proofs.Ytkfpiojhfjmnaaa
open Go.RowKit

set_option maxHeartbeats 400000 in
theorem rwidth_any (n : Int) (w : World) : Calls Try.prog 41 #[.int .i64 n] w fun e w' => e = .returned (.bool (isWidth n)) ∧ w = w' := by
  go_enter Try.func41, Try.ntmps41
  go_wp2_with fail
  all_goals (go_ret; first | exact ⟨rfl, rfl⟩ | (subst_vars; exact ⟨rfl, rfl⟩))

set_option maxHeartbeats 400000 in
theorem rfits_any (width n : Int) (w : World) (h64 : n ≤ 9223372036854775807) : Calls Try.prog 37 #[.int .i64 width, .int .i64 n] w fun e w' => e = .returned (.bool (fitsB width n)) ∧ w = w' := by
  cases hw : isWidth width
  · have e : fitsB width n = false := by rw [fitsB_eq, hw]; rfl
    rw [e]
    have H := Lib.hid hw
    clear hw e
    go_enter Try.func37, Try.ntmps37
    go_wp2_with fail
    refine (rwidth_any _ _).mono ?_
    rw [H.out]
    rintro e w' ⟨rfl, rfl⟩
    go_wp2_with fail
    go_ret
    exact ⟨rfl, rfl⟩
  by_cases h0 : n < 0
  · have e : fitsB width n = false := by rw [fitsB_eq, decide_eq_false (show ¬ 0 ≤ n by omega)]; simp
    rw [e]
    have H := Lib.hid hw
    clear hw e
    go_enter Try.func37, Try.ntmps37
    go_wp2_with fail
    refine (rwidth_any _ _).mono ?_
    rw [H.out]
    rintro e w' ⟨rfl, rfl⟩
    go_wp2_with fail
    go_ret
    exact ⟨rfl, rfl⟩
  · obtain ⟨N, rfl⟩ := Int.eq_ofNat_of_zero_le (show 0 ≤ n by omega)
    obtain ⟨W, rfl⟩ := Int.eq_ofNat_of_zero_le (show 0 ≤ width by have := isWidth_bounds hw; omega)
    have hW : W ≤ 6 := by have := isWidth_bounds hw; omega
    have hN : N < 9223372036854775808 := by omega
    have H := Lib.hid hw
    clear hw h0
    go_enter Try.func37, Try.ntmps37
    go_wp2_with fail
    refine (rwidth_any _ _).mono ?_
    rw [H.out]
    rintro e w' ⟨rfl, rfl⟩
    go_wp2_with fail
    go_loop [1, 5] (fun a i => ∃ k q : Nat, k ≤ W ∧ q ≤ N ∧ Hid (q = N / 256 ^ k) ∧ i = .int .i64 k ∧ a = .int .i64 q) (fun _ i => W - (intOf i).toNat)
    case atStart => exact ⟨0, N, Nat.zero_le _, Nat.le_refl _, Lib.hid (by simp), rfl, rfl⟩
    case round =>
      obtain ⟨k, q, hk, hq, E, rfl, rfl⟩ := hrel
      by_cases hlt : k < W
      · go_wp2_with fail
        go_round
        case rel => exact ⟨k + 1, q / 256, by omega, by omega, Lib.hid (by rw [E.out, div_pow_succ]), by go_num, by go_num⟩
        case measure => simp [intOf]; omega
      · go_wp2_with fail
        go_ret
        obtain rfl : k = W := by omega
        refine ⟨ret_bool ?_, rfl⟩
        rw [fitsB_nat H.out, ← E.out]
        rw [Bool.eq_iff_iff, beq_iff_eq, decide_eq_true_eq]
        omega

set_option maxHeartbeats 400000 in
theorem rput_any (width n : Int) (w : World) (h64 : n ≤ 9223372036854775807) : Calls Try.prog 26 #[.int .i64 width, .int .i64 n] w (RetBI w (putL width n) (putE width n)) := by
  cases hf : fitsB width n
  · have E : RetBI w (putL width n) (putE width n) = RetBI w [] 2 := by simp [putL, putE, hf]
    rw [E]
    clear E
    have H := Lib.hid hf
    clear hf
    go_enter Try.func26, Try.ntmps26
    go_wp2_with fail
    refine (rfits_any _ _ _ h64).mono ?_
    rw [H.out]
    rintro e w' ⟨rfl, rfl⟩
    go_wp2_with fail
    go_ret2
    exact ⟨none, 0, rfl, Own.none_ _ _, Below.refl _ _⟩
  · have E : RetBI w (putL width n) (putE width n) = RetBI w (leB width.toNat n.toNat) 0 := by simp [putL, putE, hf]
    rw [E]
    clear E
    obtain ⟨_, h1, h2, h3, h4, _⟩ := fitsB_true hf
    obtain ⟨W, rfl⟩ := Int.eq_ofNat_of_zero_le h1
    obtain ⟨N, rfl⟩ := Int.eq_ofNat_of_zero_le h3
    have hN : N < 281474976710656 := by omega
    have hW : W ≤ 6 := by omega
    clear h1 h2 h3 h4
    have H := Lib.hid hf
    clear hf
    simp only [Int.toNat_natCast]
    go_enter Try.func26, Try.ntmps26
    go_wp2_with fail
    refine (rfits_any _ _ _ h64).mono ?_
    rw [H.out]
    rintro e w1 ⟨rfl, rfl⟩
    go_wp2_with fail
    go_loopw [1, 6, 7] (fun a v i wr => ∃ (k q : Nat) (A : Option Addr) (c : Nat) (L : List UInt8), k ≤ W ∧ q ≤ N ∧ Hid (q = N / 256 ^ k) ∧ Hid (L = leB k N) ∧ i = .int .i64 k ∧ a = .int .i64 q ∧ v = .slice A L.length c ∧ L.length ≤ 6 ∧ Own wr w.heap.size A c L ∧ Below w.heap.size w wr) (fun _ _ i _ => W - (intOf i).toNat)
    case atStart => exact ⟨0, N, none, 0, [], Nat.zero_le _, Nat.le_refl _, Lib.hid (by simp), Lib.hid rfl, rfl, rfl, rfl, by simp, Own.none_ _ _, Below.refl _ _⟩
    case round =>
      obtain ⟨k, q, A, c, L, hk, hq, E, HL, rfl, rfl, rfl, hL6, hown, hb⟩ := hrel
      have hz := hb.size
      by_cases hlt : k < W
      · go_wp2_with (at_builtin; refine wpList_append_bytes _ rfl _ _ rfl w.heap.size A L.length c L rfl rfl (hown.alloc _) (some ⟨wr.heap.size, 0, none⟩) 1 1 [UInt8.ofNat q] rfl rfl (rd_lit _ _ _ ?_) ?_ ?_ ?_)
        · simp [bvs]
        · simp; omega
        · simp; omega
        intro A1 c1 w1 hown1 hb1 _
        go_wp2_with fail
        go_roundw
        case measure => simp [intOf]; omega
        case rel =>
          refine ⟨k + 1, q / 256, A1, c1, L ++ [UInt8.ofNat q], by omega, by omega, Lib.hid (by rw [E.out, div_pow_succ]), Lib.hid (by rw [leB_succ, HL.out, E.out]), by go_num, by go_num, by simp, ?_, hown1, (hb.alloc hz _).trans hb1⟩
          rw [HL.out]; simp [leB_length]; omega
      · go_wp2_with fail
        go_ret2
        obtain rfl : k = W := by omega
        exact ⟨A, c, by rw [← HL.out]; rfl, by rw [← HL.out]; exact hown, hb⟩

set_option maxHeartbeats 400000 in
theorem rget_any (A : Option Addr) (c : Nat) (l : List UInt8) (at_ width : Int) (w : World) (hr : Rd w A l) (hc : l.length ≤ maxLen) :
    Calls Try.prog 34 #[.slice A l.length c, .int .i64 at_, .int .i64 width] w fun e w' => e = .returned (.tuple #[.int .i64 (getN l at_ width), .int .i64 (getP l at_ width), .int .i64 (getE l at_ width)]) ∧ w = w' := by
  unfold maxLen at hc
  cases hw : isWidth width
  · have e1 : getN l at_ width = 0 := by simp [getN, getE, hw]
    have e2 : getP l at_ width = 0 := by simp [getP, getE, hw]
    have e3 : getE l at_ width = 2 := by simp [getE, hw]
    rw [e1, e2, e3]
    have H := Lib.hid hw
    clear hw e1 e2 e3
    go_enter Try.func34, Try.ntmps34
    go_wp2_with fail
    refine (rwidth_any _ _).mono ?_
    rw [H.out]
    rintro e w1 ⟨rfl, rfl⟩
    go_wp2_with fail
    go_ret3
    exact ⟨rfl, rfl⟩
  by_cases h1 : at_ < 0
  · have e3 : getE l at_ width = 2 := by simp [getE, hw, h1]
    have e1 : getN l at_ width = 0 := by simp [getN, e3]
    have e2 : getP l at_ width = 0 := by simp [getP, e3]
    rw [e1, e2, e3]
    have H := Lib.hid hw
    clear hw e1 e2 e3
    go_enter Try.func34, Try.ntmps34
    go_wp2_with fail
    refine (rwidth_any _ _).mono ?_
    rw [H.out]
    rintro e w1 ⟨rfl, rfl⟩
    go_wp2_with fail
    go_ret3
    exact ⟨rfl, rfl⟩
  by_cases h2 : (l.length : Int) < at_
  · have e3 : getE l at_ width = 2 := by simp [getE, hw, h2]
    have e1 : getN l at_ width = 0 := by simp [getN, e3]
    have e2 : getP l at_ width = 0 := by simp [getP, e3]
    rw [e1, e2, e3]
    have H := Lib.hid hw
    clear hw e1 e2 e3
    go_enter Try.func34, Try.ntmps34
    go_wp2_with fail
    refine (rwidth_any _ _).mono ?_
    rw [H.out]
    rintro e w1 ⟨rfl, rfl⟩
    go_wp2_with fail
    go_ret3
    exact ⟨rfl, rfl⟩
  by_cases h3 : (l.length : Int) - at_ < width
  · have e3 : getE l at_ width = 10 := by simp [getE, hw, h1, h2, h3]
    have e1 : getN l at_ width = 0 := by simp [getN, e3]
    have e2 : getP l at_ width = 0 := by simp [getP, e3]
    rw [e1, e2, e3]
    have H := Lib.hid hw
    clear hw e1 e2 e3
    go_enter Try.func34, Try.ntmps34
    go_wp2_with fail
    refine (rwidth_any _ _).mono ?_
    rw [H.out]
    rintro e w1 ⟨rfl, rfl⟩
    go_wp2_with fail
    go_ret3
    exact ⟨rfl, rfl⟩
  obtain ⟨a, rfl⟩ := Int.eq_ofNat_of_zero_le (show 0 ≤ at_ by omega)
  have hwb := isWidth_bounds hw
  obtain ⟨W, rfl⟩ := Int.eq_ofNat_of_zero_le (show 0 ≤ width by omega)
  have e3 : getE l a W = 0 := by simp [getE, hw, h1, h2, h3]
  obtain ⟨L, HL⟩ : ∃ L, Hid (L = (l.drop a).take W) := ⟨_, Lib.hid rfl⟩
  have hln : a + W ≤ l.length := by omega
  have hLl : Hid (L.length = W) := Lib.hid (by rw [HL.out]; simp; omega)
  have e1 : getN l a W = leN L := by simp [getN, e3, HL.out]
  have e2 : getP l a W = (a : Int) + W := by simp [getP, e3]
  rw [e1, e2, e3]
  have hW1 : 1 ≤ W := by omega
  have hW6 : W ≤ 6 := by omega
  have H := Lib.hid hw
  clear hw e1 e2 e3 h1 hwb
  go_enter Try.func34, Try.ntmps34
  go_wp2_with fail
  refine (rwidth_any _ _).mono ?_
  rw [H.out]
  rintro e w1 ⟨rfl, rfl⟩
  go_wp2_with fail
  go_loop [9, 10, 11] (fun n v i => ∃ k q x : Nat, k ≤ W ∧ i = .int .i64 k ∧ n = .int .i64 q ∧ v = .int .i64 x ∧ q < x ∧ x ≤ 281474976710656 ∧ Hid (x = 256 ^ k) ∧ Hid (q = leN (L.take k))) (fun _ _ i => W - (intOf i).toNat)
  case atStart => exact ⟨0, 0, 1, by omega, rfl, rfl, rfl, by omega, by omega, Lib.hid rfl, Lib.hid rfl⟩
  case round =>
    obtain ⟨k, q, x, hk, rfl, rfl, rfl, hq, hx48, HX, HQ⟩ := hrel
    by_cases hlt : k < W
    · have hx40 : x ≤ 1099511627776 := by
        have : 256 ^ k ≤ 256 ^ 5 := Nat.pow_le_pow_right (by omega) (by omega)
        rw [HX.out]; omega
      obtain ⟨b, o, rfl, hcl⟩ := hr.at_ (k := a + k) (by omega)
      have hcell := hcl (a + k) (by omega)
      have hlk : l[a + k]'(by omega) = L[k]'(by have := hLl.out; omega) := by simp [HL.out]
      rw [hlk] at hcell
      have hlt2 := (L[k]'(by have := hLl.out; omega)).toNat_lt
      obtain ⟨y, HY⟩ : ∃ y, Hid (y = (L[k]'(by have := hLl.out; omega)).toNat) := ⟨_, Lib.hid rfl⟩
      rw [← HY.out] at hcell hlt2
      have hxy : x * y ≤ 1099511627776 * 255 := Nat.mul_le_mul hx40 (by omega)
      obtain ⟨p, HP⟩ : ∃ p, Hid (p = x * y) := ⟨_, Lib.hid rfl⟩
      have hp0 : (0 : Int) ≤ (x : Int) * y := by rw [← Int.natCast_mul]; omega
      have hp1 : (x : Int) * y ≤ 1099511627776 * 255 := by rw [← Int.natCast_mul]; omega
      clear hcl hlk hxy
      go_wp2_with fail
      go_round
      case measure => simp [intOf]; omega
      case rel =>
        have hq2 : q + x * y < 256 * x := by
          have : x * y ≤ x * 255 := Nat.mul_le_mul_left _ (by omega)
          omega
        refine ⟨k + 1, q + x * y, 256 * x, by omega, by go_num, by rw [Int.natCast_add, Int.natCast_mul], by rw [Int.natCast_mul]; rfl, hq2, by omega, Lib.hid (by rw [HX.out, Nat.pow_succ, Nat.mul_comm]), Lib.hid ?_⟩
        rw [List.take_succ_eq_append_getElem (by have := hLl.out; omega), leN_append, HQ.out, HX.out, HY.out]
        have := hLl.out
        rw [List.length_take, Nat.min_eq_left (by omega), leN, leN, Nat.mul_zero, Nat.add_zero]
    · obtain rfl : k = W := by omega
      go_wp2_with fail
      go_ret3
      have e := HQ.out
      rw [List.take_of_length_le (by have := hLl.out; omega)] at e
      exact ⟨by rw [← e]; rfl, rfl⟩

set_option maxHeartbeats 400000 in
theorem rread_any (A : Option Addr) (c : Nat) (l : List UInt8) (at_ : Int) (w : World) (hr : Rd w A l) (hc : l.length ≤ c) (hm : c ≤ maxLen) :
    Calls Try.prog 35 #[.slice A l.length c, .int .i64 at_] w fun e w' => e = .returned (.tuple #[str (readS l at_), .int .i64 (readP l at_), .int .i64 (readE l at_)]) ∧ w = w' := by
  have hcl : l.length ≤ maxLen := Nat.le_trans hc hm
  by_cases he : getE l at_ 1 = 0
  · obtain ⟨_, h0, h1⟩ := getE_zero he
    obtain ⟨a, rfl⟩ := Int.eq_ofNat_of_zero_le h0
    obtain ⟨N, hN⟩ : ∃ N : Nat, getN l a 1 = N := ⟨leN ((l.drop a).take 1), by simp [getN, he]⟩
    have hN2 : N < 256 := by
      have : leN ((l.drop a).take 1) < 256 ^ 1 := leN_take_lt _ _ _
      simp [getN, he] at hN; omega
    have hP : getP l a 1 = (a : Int) + 1 := by simp [getP, he]
    by_cases hp : (l.length : Int) - (a + 1) < N
    · have hre : readE l a = 10 := by unfold readE; rw [he, hN]; simp [hp]
      have e1 : readS l a = [] := by unfold readS; rw [hre]; rfl
      have e2 : readP l a = 0 := by unfold readP; rw [hre]; rfl
      rw [e1, e2, hre]
      have HN := Lib.hid hN
      have HPP := Lib.hid hP
      have HE := Lib.hid he
      unfold maxLen at hm
      clear e1 e2 hre hN hP he
      go_enter Try.func35, Try.ntmps35
      go_wp2_with fail
      refine (rget_any A c l a 1 w hr hcl).mono ?_
      rw [HN.out, HPP.out, HE.out]
      rintro e w1 ⟨rfl, rfl⟩
      go_wp2_with fail
      go_ret3
      exact ⟨rfl, rfl⟩
    · have hre : readE l a = 0 := by unfold readE; rw [he, hN]; simp [hp]
      have e1 : readS l a = (l.drop (a + 1)).take N := by unfold readS; rw [hre, hN, if_pos rfl, Int.toNat_natCast, Int.toNat_natCast]
      have e2 : readP l a = (a : Int) + 1 + N := by unfold readP; rw [hre, hN, if_pos rfl]
      rw [e1, e2, hre]
      have HN := Lib.hid hN
      have HPP := Lib.hid hP
      have HE := Lib.hid he
      have hln : a + 1 + N ≤ l.length := by omega
      have hlen : N = ((l.drop (a + 1)).take N).length := by simp; omega
      obtain ⟨L, HL⟩ : ∃ L, Hid (L = (l.drop (a + 1)).take N) := ⟨_, Lib.hid rfl⟩
      have hsl := fun e => hr.slice_eq (a + 1) N c hln hc e
      have hsl2 := fun e => hr.slice_ne (a + 1) N c hln hc e
      rw [← HL.out] at hsl hsl2 hlen ⊢
      unfold maxLen at hm
      clear e1 e2 hre hN hP he
      by_cases hca : c = a + 1
      · have k1 := run_convert_str w A N 0 _ hlen (hsl hca)
        subst hca
        clear hsl hsl2 hlen
        go_enter Try.func35, Try.ntmps35
        go_wp2_with fail
        refine (rget_any A (a + 1) l a 1 w hr hcl).mono ?_
        rw [HN.out, HPP.out, HE.out]
        rintro e w1 ⟨rfl, rfl⟩
        go_wp2_with fail
        go_ret3
        exact ⟨rfl, rfl⟩
      · have hsl3 := hsl2 hca
        obtain ⟨b, o, rfl, _⟩ := hr.at_ (k := a) (by omega)
        simp only [Option.map_some, Addr.add_lit] at hsl3
        have k1 := run_convert_str w _ N (c - (a + 1)) _ hlen hsl3
        clear hsl hsl2 hlen hsl3
        go_enter Try.func35, Try.ntmps35
        go_wp2_with fail
        refine (rget_any _ c l a 1 w hr hcl).mono ?_
        rw [HN.out, HPP.out, HE.out]
        rintro e w1 ⟨rfl, rfl⟩
        go_wp2_with fail
        go_ret3
        exact ⟨rfl, rfl⟩
  · have hre : readE l at_ = getE l at_ 1 := by unfold readE; rw [if_pos he]
    have e1 : readS l at_ = [] := by unfold readS; rw [hre, if_neg he]
    have e2 : readP l at_ = 0 := by unfold readP; rw [hre, if_neg he]
    rw [e1, e2, hre]
    have he' : (getE l at_ 1 != 0) = true := by simpa using he
    clear e1 e2 hre
    go_enter Try.func35, Try.ntmps35
    go_wp2_with fail
    refine (rget_any A c l at_ 1 w hr hcl).mono ?_
    rintro e w1 ⟨rfl, rfl⟩
    go_wp2_with fail
    go_ret3
    exact ⟨rfl, rfl⟩

set_option maxHeartbeats 400000 in
theorem rtext_any (s : ByteArray) (w : World) (hs : s.size ≤ maxLen) : Calls Try.prog 27 #[.string s] w (RetBI w (textL s.data.toList) (textE s.data.toList)) := by
  have hl : s.data.toList.length = s.size := Array.length_toList (xs := s.data)
  unfold maxLen at hs
  by_cases h : s.size ≤ 255
  · have e : RetBI w (textL s.data.toList) (textE s.data.toList) = RetBI w (UInt8.ofNat s.size :: s.data.toList) 0 := by unfold textL textE; rw [hl]; simp [h]
    rw [e]
    clear e hs
    have HL := Lib.hid hl
    clear hl
    go_enter Try.func27, Try.ntmps27
    go_wp2_with fail
    go_loopw [4, 5] (fun v i wr => ∃ (k : Nat) (A : Option Addr) (c : Nat) (L : List UInt8), k ≤ s.size ∧ i = .int .i64 k ∧ v = .slice A L.length c ∧ L.length ≤ 256 ∧ Hid (L = UInt8.ofNat s.size :: s.data.toList.take k) ∧ Own wr w.heap.size A c L ∧ Below w.heap.size w wr) (fun _ i _ => s.size - (intOf i).toNat)
    case atStart =>
      exact ⟨0, some ⟨w.heap.size, 0, none⟩, 1, [UInt8.ofNat s.size], Nat.zero_le _, rfl, rfl, by simp, Lib.hid rfl, own_lit w _ _ _ (by simp [bvs]; omega) (Nat.le_refl _) (by simp; unfold maxLen; omega) _ rfl, (Below.refl _ _).alloc (Nat.le_refl _) _⟩
    case round =>
      obtain ⟨k, A, c, L, hk, rfl, rfl, hL6, HLL, hown, hb⟩ := hrel
      have hz := hb.size
      by_cases hlt : k < s.size
      · have hlt2 : k < s.data.toList.length := by rw [HL.out]; exact hlt
        go_wp2_with (at_builtin; refine wpList_append_bytes _ rfl _ _ rfl w.heap.size A L.length c L rfl rfl (hown.alloc _) (some ⟨wr.heap.size, 0, none⟩) 1 1 [s.data.toList[k]] rfl rfl (rd_lit _ _ _ ?_) ?_ ?_ ?_)
        · simp [bvs]; rfl
        · simp; omega
        · simp; omega
        intro A1 c1 w1 hown1 hb1 _
        go_wp2_with fail
        go_roundw
        case measure => simp [intOf]; omega
        case rel =>
          have hLe : L.length = k + 1 := by rw [HLL.out]; simp; have := HL.out; simp at this; omega
          refine ⟨k + 1, A1, c1, L ++ [s.data.toList[k]], by omega, by go_num, by simp, by simp; omega, Lib.hid ?_, hown1, (hb.alloc hz _).trans hb1⟩
          rw [List.take_succ_eq_append_getElem hlt2, HLL.out]; rfl
      · obtain rfl : k = s.size := by omega
        go_wp2_with fail
        go_ret2
        have e : L = UInt8.ofNat s.size :: s.data.toList := by rw [HLL.out, List.take_of_length_le (by rw [HL.out]; omega)]
        exact ⟨A, c, by rw [← e]; rfl, by rw [← e]; exact hown, hb⟩
  · have e : RetBI w (textL s.data.toList) (textE s.data.toList) = RetBI w [] 3 := by unfold textL textE; rw [hl]; simp [h]
    rw [e]
    clear e
    go_enter Try.func27, Try.ntmps27
    go_wp2_with fail
    go_ret2
    exact ⟨none, 0, rfl, Own.none_ _ _, Below.refl _ _⟩
end Go.Proofs.Ytkfpiojhfjmnaaa
