/-
  THE WALKS OF OCTET AND ITS REFERENCE: what each call answers; nothing that was there is written.
-/
import Derived.Test.YtkfpiojhfjmnaaaOctPlain
namespace Go.Proofs.Ytkfpiojhfjmnaaa
open Go.RowKit

set_option maxHeartbeats 400000 in
theorem many_any (n : Int) (w : World) : Calls Try.prog 44 #[.int .i64 n] w (RetV w (.int .i64 (many n))) := by
  by_cases h0 : n < 0
  · go_enter Try.func44, Try.ntmps44
    go_wp2_with fail
    go_ret
    exact ⟨by unfold many; simp; omega, (Below.refl _ _).alloc (Nat.le_refl _) _⟩
  by_cases h7 : 7 ≤ n
  · go_enter Try.func44, Try.ntmps44
    go_wp2_with fail
    go_ret
    exact ⟨by unfold many; simp; omega, (Below.refl _ _).alloc (Nat.le_refl _) _⟩
  have h : n = 0 ∨ n = 1 ∨ n = 2 ∨ n = 3 ∨ n = 4 ∨ n = 5 ∨ n = 6 := by omega
  rcases h with rfl | rfl | rfl | rfl | rfl | rfl | rfl <;> clear h0 h7
  all_goals
    go_enter Try.func44, Try.ntmps44
    go_wp2_with fail
    go_ret
    exact ⟨rfl, (Below.refl _ _).alloc (Nat.le_refl _) _⟩

set_option maxHeartbeats 400000 in
theorem fits_any (width n : Int) (w : World) : Calls Try.prog 43 #[.int .i64 width, .int .i64 n] w (RetV w (.bool (fitsB width n))) := by
  by_cases h0 : 0 ≤ n
  · go_enter Try.func43, Try.ntmps43
    go_wp2_with fail
    refine (many_any _ _).mono ?_
    rintro e w' ⟨rfl, hb⟩
    go_wp2_with fail
    go_ret
    exact ⟨by simp [fitsB, h0], hb⟩
  · go_enter Try.func43, Try.ntmps43
    go_wp2_with fail
    go_ret
    exact ⟨ret_bool (by unfold fitsB; rw [decide_eq_false (by omega)]; rfl), Below.refl _ _⟩

set_option maxHeartbeats 400000 in
theorem put_any (width n : Int) (w : World) : Calls Try.prog 38 #[.int .i64 width, .int .i64 n] w (RetBI w (putL width n) (putE width n)) := by
  cases hf : fitsB width n
  · have E : RetBI w (putL width n) (putE width n) = RetBI w [] 2 := by simp [putL, putE, hf]
    rw [E]
    clear E
    have H := Lib.hid hf
    clear hf
    go_enter Try.func38, Try.ntmps38
    go_wp2_with fail
    refine (fits_any _ _ _).mono ?_
    rw [H.out]
    rintro e w' ⟨rfl, hb⟩
    go_wp2_with fail
    go_ret2
    exact ⟨none, 0, rfl, Own.none_ _ _, hb⟩
  · have E : RetBI w (putL width n) (putE width n) = RetBI w (leB width.toNat n.toNat) 0 := by simp [putL, putE, hf]
    rw [E]
    clear E
    obtain ⟨_, h1, h2, h3, h4, _⟩ := fitsB_true hf
    obtain ⟨W, rfl⟩ := Int.eq_ofNat_of_zero_le h1
    obtain ⟨N, rfl⟩ := Int.eq_ofNat_of_zero_le h3
    have hN : N < 281474976710656 := by omega
    have hW : W ≤ 6 := by omega
    clear h1 h2 h3 h4
    have H := Lib.hid hf
    clear hf
    simp only [Int.toNat_natCast]
    go_enter Try.func38, Try.ntmps38
    go_wp2_with fail
    refine (fits_any _ _ _).mono ?_
    rw [H.out]
    rintro e w1 ⟨rfl, hb⟩
    have hz := hb.size
    go_wp2_with (at_make; refine wpList_make_bytes _ rfl _ _ rfl w.heap.size .i64 .i64 _ _ W rfl rfl rfl rfl (by omega) hz ?_; intro w2 hown hb2 hz2)
    go_loopw [15] (fun i wr => ∃ k : Nat, k ≤ W ∧ i = .int .i64 k ∧ Own wr w.heap.size (some ⟨w1.heap.size, 0, none⟩) W (leB k N ++ List.replicate (W - k) 0) ∧ Below w.heap.size w wr) (fun i _ => W - (intOf i).toNat)
    case atStart => exact ⟨0, Nat.zero_le _, rfl, hown, bel_trans hb hb2 hz⟩
    case round =>
      obtain ⟨k, hk, rfl, hown, hb⟩ := hrel
      by_cases hlt : k < W
      · have hl : k < (leB k N ++ List.replicate (W - k) 0).length := by simp [leB_length]; omega
        have hc := hown.cell k hl
        have hfz := hown.frozen k
        go_wp2_with fail
        go_roundw
        case rel =>
          refine ⟨k + 1, by omega, by go_num, ?_, hb.setCell hz _⟩
          rw [shr_byte]
          have h1 := hown.set k (UInt8.ofNat (N / 256 ^ k))
          have h2 := set_mid (leB k N) (W - k) (UInt8.ofNat (N / 256 ^ k)) (by omega)
          rw [leB_length] at h2
          rw [h2, ← leB_succ, Nat.sub_sub] at h1
          exact h1
        case measure => simp [intOf]; omega
      · go_wp2_with fail
        go_ret2
        obtain rfl : k = W := by omega
        simp only [Nat.sub_self, List.replicate_zero, List.append_nil] at hown
        exact ⟨_, _, by rw [leB_length]; rfl, hown, hb⟩

set_option maxHeartbeats 400000 in
theorem piece_ok (A : Option Addr) (c : Nat) (l : List UInt8) (at_ n : Nat) (w : World) (hr : Rd w A l) (hc : l.length ≤ c) (hm : c ≤ maxLen) (hln : at_ + n ≤ l.length) :
    Calls Try.prog 45 #[.slice A l.length c, .int .i64 at_, .int .i64 n] w (RetSI w ((l.drop at_).take n) 0) := by
  have hm' := hm
  unfold maxLen at hm
  have hlen : n = ((l.drop at_).take n).length := by simp; omega
  have HL := Lib.hid hlen
  clear hlen
  go_enter Try.func45, Try.ntmps45
  go_wp2_with fail
  · go_ret2
    exact ⟨_, _, by rw [← HL.out]; rfl, hr.slice_eq at_ n c hln hc (by assumption), by rw [← HL.out]; omega, Nat.zero_le _, rfl⟩
  · go_ret2
    exact ⟨_, _, by rw [← HL.out]; rfl, hr.slice_ne at_ n c hln hc (by assumption), by rw [← HL.out]; omega, by omega, rfl⟩

/-- the error of a part -/
def pieceE (l : List UInt8) (at_ n : Int) : Int := if at_ < 0 ∨ (l.length : Int) < at_ then 2 else if (l.length : Int) - at_ < n then 10 else 0

set_option maxHeartbeats 400000 in
theorem piece_any (A : Option Addr) (c : Nat) (l : List UInt8) (at_ n : Int) (w : World) (hr : Rd w A l) (hc : l.length ≤ c) (hm : c ≤ maxLen) (hn : 0 ≤ n) :
    Calls Try.prog 45 #[.slice A l.length c, .int .i64 at_, .int .i64 n] w (RetSI w (if pieceE l at_ n = 0 then (l.drop at_.toNat).take n.toNat else []) (pieceE l at_ n)) := by
  have hm' := hm
  by_cases h1 : at_ < 0 ∨ (l.length : Int) < at_
  · have e : pieceE l at_ n = 2 := by simp [pieceE, h1]
    rw [e]
    simp only [show ¬ ((2 : Int) = 0) by omega, if_false]
    clear e
    unfold maxLen at hm
    rcases h1 with h1 | h1
    · go_enter Try.func45, Try.ntmps45
      go_wp2_with fail
      go_ret2
      exact ⟨none, 0, rfl, Rd.nil _ _, Nat.le_refl _, Nat.zero_le _, rfl⟩
    · have h0 : ¬ at_ < 0 := by omega
      go_enter Try.func45, Try.ntmps45
      go_wp2_with fail
      go_ret2
      exact ⟨none, 0, rfl, Rd.nil _ _, Nat.le_refl _, Nat.zero_le _, rfl⟩
  by_cases h2 : (l.length : Int) - at_ < n
  · have e : pieceE l at_ n = 10 := by simp [pieceE, h1, h2]
    rw [e]
    simp only [show ¬ ((10 : Int) = 0) by omega, if_false]
    clear e
    unfold maxLen at hm
    have h3 : ¬ at_ < 0 := by omega
    have h4 : ¬ (l.length : Int) < at_ := by omega
    clear h1
    go_enter Try.func45, Try.ntmps45
    go_wp2_with fail
    go_ret2
    exact ⟨none, 0, rfl, Rd.nil _ _, Nat.le_refl _, Nat.zero_le _, rfl⟩
  · have e : pieceE l at_ n = 0 := by simp [pieceE, h1, h2]
    rw [e]
    simp only [if_true]
    obtain ⟨a, rfl⟩ := Int.eq_ofNat_of_zero_le (show 0 ≤ at_ by omega)
    obtain ⟨m, rfl⟩ := Int.eq_ofNat_of_zero_le hn
    exact piece_ok A c l a m w hr hc hm (by omega)

theorem getE_one (l : List UInt8) (at_ : Int) : getE l at_ 1 = pieceE l at_ 1 := by simp [getE, pieceE, isWidth]
theorem getE_piece {l : List UInt8} {at_ width : Int} (h : isWidth width = true) : getE l at_ width = pieceE l at_ width := by simp [getE, pieceE, h]

/-- a number, a place, an error -/
def RetG (w : World) (n p e : Int) : Ending → World → Prop := RetV w (.tuple #[.int .i64 n, .int .i64 p, .int .i64 e])

theorem take_rev_step (l : List UInt8) (W k : Nat) (hW : l.length = W) (hk : k < W) :
    leN (l.drop (W - (k + 1))) = leN (l.drop (W - k)) * 256 + (l[W - 1 - k]'(by omega)).toNat := by
  have e : l.drop (W - (k + 1)) = (l[W - 1 - k]'(by omega)) :: l.drop (W - k) := by
    rw [show W - (k + 1) = W - 1 - k by omega, List.drop_eq_getElem_cons (by omega), show W - 1 - k + 1 = W - k by omega]
  rw [e, leN]; omega

theorem or_byte (n c : Nat) (hc : c < 256) : (n * 256 ||| c) = n * 256 + c := by
  have := Nat.two_pow_add_eq_or_of_lt (i := 8) (b := c) (by omega) n
  rw [Nat.mul_comm] at this
  exact this.symm

set_option maxHeartbeats 400000 in
theorem get_any (A : Option Addr) (c : Nat) (l : List UInt8) (at_ width : Int) (w : World) (hr : Rd w A l) (hc : l.length ≤ c) (hm : c ≤ maxLen) :
    Calls Try.prog 39 #[.slice A l.length c, .int .i64 at_, .int .i64 width] w (RetG w (getN l at_ width) (getP l at_ width) (getE l at_ width)) := by
  cases hw : isWidth width
  · have e : RetG w (getN l at_ width) (getP l at_ width) (getE l at_ width) = RetG w 0 0 2 := by simp [getN, getP, getE, hw]
    rw [e]
    clear e
    have H : (many width == 0) = true := by rw [many_pos, hw]; rfl
    clear hw
    go_enter Try.func39, Try.ntmps39
    go_wp2_with fail
    refine (many_any _ _).mono ?_
    rintro e w1 ⟨rfl, hb⟩
    go_wp2_with fail
    go_ret3
    exact ⟨rfl, hb⟩
  have hwb := isWidth_bounds hw
  by_cases he : getE l at_ width = 0
  · have e : RetG w (getN l at_ width) (getP l at_ width) (getE l at_ width) = RetG w ((leN ((l.drop at_.toNat).take width.toNat) : Nat)) (at_ + width) 0 := by simp [getN, getP, he]
    rw [e]
    clear e
    obtain ⟨_, h0, h1⟩ := getE_zero he
    have hp : pieceE l at_ width = 0 := by rw [← getE_piece hw]; exact he
    clear he
    obtain ⟨a, rfl⟩ := Int.eq_ofNat_of_zero_le h0
    obtain ⟨W, rfl⟩ := Int.eq_ofNat_of_zero_le (show 0 ≤ width by omega)
    have H : (many W == 0) = false := by rw [many_pos, hw]; rfl
    have hW1 : 1 ≤ W := by omega
    have hW6 : W ≤ 6 := by omega
    have hln : a + W ≤ l.length := by omega
    clear hw hwb h0 h1 hp
    simp only [Int.toNat_natCast]
    have hm' := hm
    unfold maxLen at hm
    obtain ⟨L, HL⟩ : ∃ L, Hid (L = (l.drop a).take W) := ⟨_, Lib.hid rfl⟩
    have hLl : Hid (L.length = W) := Lib.hid (by rw [HL.out]; simp; omega)
    go_enter Try.func39, Try.ntmps39
    go_wp2_with fail
    refine (many_any _ _).mono ?_
    rintro e w1 ⟨rfl, hb⟩
    go_wp2_with fail
    refine (piece_ok A c l a W w1 (hr.below hb) hc hm' hln).mono ?_
    rintro e w2 ⟨A2, c2, rfl, hr2, hc2, hm2, rfl⟩
    rw [← HL.out] at hr2 hc2 ⊢
    rw [hLl.out]
    rw [hLl.out] at hc2
    go_wp2_with fail
    go_loop [11, 27] (fun n i => ∃ k q : Nat, k ≤ W ∧ i = .int .i64 k ∧ n = .int .i64 q ∧ q < 256 ^ k ∧ Hid (q = leN (L.drop (W - k)))) (fun _ i => W - (intOf i).toNat)
    case atStart => exact ⟨0, 0, by omega, rfl, rfl, by simp, Lib.hid (by rw [List.drop_of_length_le (by have := hLl.out; omega)]; rfl)⟩
    case round =>
      obtain ⟨k, q, hk, rfl, rfl, hq, HQ⟩ := hrel
      by_cases hlt : k < W
      · have hq48 : q < 1099511627776 := by
          have : 256 ^ k ≤ 256 ^ 5 := Nat.pow_le_pow_right (by omega) (by omega)
          omega
        obtain ⟨b, o, rfl, hcl⟩ := hr2.at_ (k := W - 1 - k) (by have := hLl.out; omega)
        have hcell := hcl (W - 1 - k) (by have := hLl.out; omega)
        have hlt2 := (L[W - 1 - k]'(by have := hLl.out; omega)).toNat_lt
        obtain ⟨x, HX⟩ : ∃ x, Hid (x = (L[W - 1 - k]'(by have := hLl.out; omega)).toNat) := ⟨_, Lib.hid rfl⟩
        rw [← HX.out] at hcell hlt2
        clear hcl
        go_wp2_with fail
        go_round
        case measure => simp [intOf]; omega
        case rel =>
          refine ⟨k + 1, q * 256 + x, by omega, by go_num, ?_, by rw [Nat.pow_succ]; omega, Lib.hid ?_⟩
          · rw [show (q : Int) * 256 = ((q * 256 : Nat) : Int) by omega, i64_or_nat _ _ (by omega) (by omega), or_byte _ _ (by omega)]
          · rw [take_rev_step L W k hLl.out hlt, ← HQ.out, ← HX.out]
      · go_wp2_with fail
        go_ret3
        obtain rfl : k = W := by omega
        have e := HQ.out
        rw [Nat.sub_self, List.drop_zero, HL.out] at e
        exact ⟨by rw [← e]; rfl, hb⟩
  · have e : RetG w (getN l at_ width) (getP l at_ width) (getE l at_ width) = RetG w 0 0 (getE l at_ width) := by simp [getN, getP, he]
    rw [e, getE_piece hw]
    rw [getE_piece hw] at he
    clear e
    have H : (many width == 0) = false := by rw [many_pos, hw]; rfl
    have he' : (pieceE l at_ width != 0) = true := by simpa using he
    clear hw
    go_enter Try.func39, Try.ntmps39
    go_wp2_with fail
    refine (many_any _ _).mono ?_
    rintro e w1 ⟨rfl, hb⟩
    go_wp2_with fail
    refine (piece_any A c l at_ width w1 (hr.below hb) hc hm (by omega)).mono ?_
    rintro e w2 ⟨A2, c2, rfl, hr2, hc2, hm2, rfl⟩
    go_wp2_with fail
    go_ret3
    exact ⟨rfl, hb⟩

theorem get_n (A : Option Addr) (c : Nat) (l : List UInt8) (n : Nat) (at_ width : Int) (w : World) (hr : Rd w A l) (hc : l.length ≤ c) (hm : c ≤ maxLen) (hn : n = l.length) :
    Calls Try.prog 39 #[.slice A n c, .int .i64 at_, .int .i64 width] w (RetG w (getN l at_ width) (getP l at_ width) (getE l at_ width)) := by
  subst hn
  exact get_any A c l at_ width w hr hc hm

set_option maxHeartbeats 400000 in
theorem read_any (A : Option Addr) (c : Nat) (l : List UInt8) (at_ : Int) (w : World) (hr : Rd w A l) (hc : l.length ≤ c) (hm : c ≤ maxLen) :
    Calls Try.prog 40 #[.slice A l.length c, .int .i64 at_] w (RetV w (.tuple #[str (readS l at_), .int .i64 (readP l at_), .int .i64 (readE l at_)])) := by
  by_cases he : getE l at_ 1 = 0
  · obtain ⟨_, h0, h1⟩ := getE_zero he
    obtain ⟨N, hN⟩ : ∃ N : Nat, getN l at_ 1 = N := ⟨leN ((l.drop at_.toNat).take (1 : Int).toNat), by simp [getN, he]⟩
    have hN2 : N < 256 := by
      have : leN ((l.drop at_.toNat).take 1) < 256 ^ 1 := leN_take_lt _ _ _
      simp [getN, he] at hN; omega
    have hP : getP l at_ 1 = at_ + 1 := by simp [getP, he]
    by_cases hp : pieceE l (at_ + 1) N = 0
    · have hre : readE l at_ = 0 := by
        unfold readE; rw [he, hN]
        unfold pieceE at hp
        split at hp
        · omega
        · split at hp
          · omega
          · simp; omega
      have e1 : readS l at_ = (l.drop (at_ + 1).toNat).take N := by unfold readS; rw [hre, hN, if_pos rfl, Int.toNat_natCast]; congr 2; omega
      have e2 : readP l at_ = at_ + 1 + N := by unfold readP; rw [hre, hN, if_pos rfl]
      rw [e1, e2, hre]
      have hlen : (l.drop (at_ + 1).toNat |>.take N).length = N := by
        unfold pieceE at hp
        simp
        split at hp
        · omega
        · split at hp <;> omega
      obtain ⟨L, HL⟩ : ∃ L, Hid (L = (l.drop (at_ + 1).toNat).take N) := ⟨_, Lib.hid rfl⟩
      rw [← HL.out] at hlen ⊢
      have HLl := Lib.hid hlen
      have HP := Lib.hid hp
      have HN := Lib.hid hN
      have HPP := Lib.hid hP
      have HE := Lib.hid he
      have hb1 : (l.length : Int) ≤ 9223372036854775807 := by unfold maxLen at hm; omega
      have hb2 : at_ + 1 + N ≤ l.length := by
        unfold pieceE at hp
        split at hp
        · omega
        · split at hp <;> omega
      clear e1 e2 hre hlen hp hN hP he
      go_enter Try.func40, Try.ntmps40
      go_wp2_with fail
      refine (get_any A c l at_ 1 w hr hc hm).mono ?_
      rw [HN.out, HPP.out, HE.out]
      rintro e w1 ⟨rfl, hb⟩
      go_wp2_with fail
      refine (piece_any A c l (at_ + 1) N w1 (hr.below hb) hc hm (by omega)).mono ?_
      rw [HP.out, if_pos rfl, Int.toNat_natCast, ← HL.out]
      rintro e w2 ⟨A2, c2, rfl, hr2, hc2, hm2, rfl⟩
      rw [HLl.out]
      have hk := run_convert_str w1 A2 N c2 L HLl.out.symm hr2
      go_wp2_with fail
      go_ret3
      exact ⟨rfl, hb⟩
    · have hp2 : pieceE l (at_ + 1) N = 10 := by
        unfold pieceE at hp ⊢
        rw [if_neg (by omega)] at hp ⊢
        split at hp
        · rename_i h; rw [if_pos h]
        · omega
      have hre : readE l at_ = 10 := by
        unfold readE; rw [he, hN]
        unfold pieceE at hp2
        rw [if_neg (by omega)] at hp2
        split at hp2
        · rename_i h; simp [h]
        · omega
      have e1 : readS l at_ = [] := by unfold readS; rw [hre]; rfl
      have e2 : readP l at_ = 0 := by unfold readP; rw [hre]; rfl
      rw [e1, e2, hre]
      have HP := Lib.hid hp2
      have HN := Lib.hid hN
      have HPP := Lib.hid hP
      have HE := Lib.hid he
      clear e1 e2 hre hp hp2 hN hP he
      go_enter Try.func40, Try.ntmps40
      go_wp2_with fail
      refine (get_any A c l at_ 1 w hr hc hm).mono ?_
      rw [HN.out, HPP.out, HE.out]
      rintro e w1 ⟨rfl, hb⟩
      go_wp2_with fail
      refine (piece_any A c l (at_ + 1) N w1 (hr.below hb) hc hm (by omega)).mono ?_
      rw [HP.out]
      rintro e w2 ⟨A2, c2, rfl, hr2, hc2, hm2, rfl⟩
      go_wp2_with fail
      go_ret3
      exact ⟨rfl, hb⟩
  · have hre : readE l at_ = getE l at_ 1 := by unfold readE; rw [if_pos he]
    have e1 : readS l at_ = [] := by unfold readS; rw [hre, if_neg he]
    have e2 : readP l at_ = 0 := by unfold readP; rw [hre, if_neg he]
    rw [e1, e2, hre]
    have he' : (getE l at_ 1 != 0) = true := by simpa using he
    clear e1 e2 hre
    go_enter Try.func40, Try.ntmps40
    go_wp2_with fail
    refine (get_any A c l at_ 1 w hr hc hm).mono ?_
    rintro e w1 ⟨rfl, hb⟩
    go_wp2_with fail
    go_ret3
    exact ⟨rfl, hb⟩

theorem read_n (A : Option Addr) (c : Nat) (l : List UInt8) (n : Nat) (at_ : Int) (w : World) (hr : Rd w A l) (hc : l.length ≤ c) (hm : c ≤ maxLen) (hn : n = l.length) :
    Calls Try.prog 40 #[.slice A n c, .int .i64 at_] w (RetV w (.tuple #[str (readS l at_), .int .i64 (readP l at_), .int .i64 (readE l at_)])) := by
  subst hn
  exact read_any A c l at_ w hr hc hm

set_option maxHeartbeats 400000 in
theorem text_any (s : ByteArray) (w : World) (hs : s.size ≤ maxLen) : Calls Try.prog 42 #[.string s] w (RetBI w (textL s.data.toList) (textE s.data.toList)) := by
  have hl : s.data.toList.length = s.size := Array.length_toList (xs := s.data)
  unfold maxLen at hs
  by_cases h : s.size ≤ 255
  · have e : RetBI w (textL s.data.toList) (textE s.data.toList) = RetBI w (UInt8.ofNat s.size :: s.data.toList) 0 := by unfold textL textE; rw [hl]; simp [h]
    rw [e]
    clear e hs
    have HL := Lib.hid hl
    clear hl
    go_enter Try.func42, Try.ntmps42
    go_wp2_with (at_builtin; refine wpList_append_str _ rfl _ _ rfl w.heap.size (some ⟨w.heap.size, 0, none⟩) 1 1 [UInt8.ofNat s.size] rfl rfl (own_lit w _ _ _ ?_ (Nat.le_refl _) ?_ _ rfl) s rfl ?_ ?_ ?_)
    · simp [bvs]; omega
    · simp; unfold maxLen; omega
    · have := HL.out; simp; omega
    · simp
    intro A1 c1 w1 hown hb
    go_wp2_with fail
    go_ret2
    exact ⟨A1, c1, rfl, hown, ((Below.refl _ _).alloc (Nat.le_refl _) _).trans hb⟩
  · have e : RetBI w (textL s.data.toList) (textE s.data.toList) = RetBI w [] 3 := by unfold textL textE; rw [hl]; simp [h]
    rw [e]
    clear e
    go_enter Try.func42, Try.ntmps42
    go_wp2_with fail
    go_ret2
    exact ⟨none, 0, rfl, Own.none_ _ _, Below.refl _ _⟩

end Go.Proofs.Ytkfpiojhfjmnaaa
