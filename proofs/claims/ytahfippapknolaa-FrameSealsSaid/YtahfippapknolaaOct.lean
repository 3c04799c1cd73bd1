/-
  THE WALKS OF OCTET AND ITS REFERENCE: what each call answers; nothing that was there is written.
-/
import Derived.Test.YtahfippapknolaaOctPlain
namespace Go.Proofs.Ytahfippapknolaa
open Go.RowKit

set_option maxHeartbeats 400000 in
theorem many_any (n : Int) (w : World) : Calls Try.prog 26 #[.int .i64 n] w (RetV w (.int .i64 (many n))) := by
  by_cases h0 : n < 0
  · go_enter Try.func26, Try.ntmps26
    go_wp2_with fail
    go_ret
    exact ⟨by unfold many; simp; omega, (Below.refl _ _).alloc (Nat.le_refl _) _⟩
  by_cases h7 : 7 ≤ n
  · go_enter Try.func26, Try.ntmps26
    go_wp2_with fail
    go_ret
    exact ⟨by unfold many; simp; omega, (Below.refl _ _).alloc (Nat.le_refl _) _⟩
  have h : n = 0 ∨ n = 1 ∨ n = 2 ∨ n = 3 ∨ n = 4 ∨ n = 5 ∨ n = 6 := by omega
  rcases h with rfl | rfl | rfl | rfl | rfl | rfl | rfl <;> clear h0 h7
  all_goals
    go_enter Try.func26, Try.ntmps26
    go_wp2_with fail
    go_ret
    exact ⟨rfl, (Below.refl _ _).alloc (Nat.le_refl _) _⟩

set_option maxHeartbeats 400000 in
theorem fits_any (width n : Int) (w : World) : Calls Try.prog 19 #[.int .i64 width, .int .i64 n] w (RetV w (.bool (fitsB width n))) := by
  by_cases h0 : 0 ≤ n
  · go_enter Try.func19, Try.ntmps19
    go_wp2_with fail
    refine (many_any _ _).mono ?_
    rintro e w' ⟨rfl, hb⟩
    go_wp2_with fail
    go_ret
    exact ⟨by simp [fitsB, h0], hb⟩
  · go_enter Try.func19, Try.ntmps19
    go_wp2_with fail
    go_ret
    exact ⟨ret_bool (by unfold fitsB; rw [decide_eq_false (by omega)]; rfl), Below.refl _ _⟩

set_option maxHeartbeats 400000 in
theorem put_any (width n : Int) (w : World) : Calls Try.prog 11 #[.int .i64 width, .int .i64 n] w (RetBI w (putL width n) (putE width n)) := by
  cases hf : fitsB width n
  · have E : RetBI w (putL width n) (putE width n) = RetBI w [] 2 := by simp [putL, putE, hf]
    rw [E]
    clear E
    have H := Lib.hid hf
    clear hf
    go_enter Try.func11, Try.ntmps11
    go_wp2_with fail
    refine (fits_any _ _ _).mono ?_
    rw [H.out]
    rintro e w' ⟨rfl, hb⟩
    go_wp2_with fail
    go_ret2
    exact ⟨none, 0, rfl, Own.none_ _ _, hb⟩
  · have E : RetBI w (putL width n) (putE width n) = RetBI w (leB width.toNat n.toNat) 0 := by simp [putL, putE, hf]
    rw [E]
    clear E
    obtain ⟨_, h1, h2, h3, h4, _⟩ := fitsB_true hf
    obtain ⟨W, rfl⟩ := Int.eq_ofNat_of_zero_le h1
    obtain ⟨N, rfl⟩ := Int.eq_ofNat_of_zero_le h3
    have hN : N < 281474976710656 := by omega
    have hW : W ≤ 6 := by omega
    clear h1 h2 h3 h4
    have H := Lib.hid hf
    clear hf
    simp only [Int.toNat_natCast]
    go_enter Try.func11, Try.ntmps11
    go_wp2_with fail
    refine (fits_any _ _ _).mono ?_
    rw [H.out]
    rintro e w1 ⟨rfl, hb⟩
    have hz := hb.size
    go_wp2_with (at_make; refine wpList_make_bytes _ rfl _ _ rfl w.heap.size .i64 .i64 _ _ W rfl rfl rfl rfl (by omega) hz ?_; intro w2 hown hb2 hz2)
    go_loopw [15] (fun i wr => ∃ k : Nat, k ≤ W ∧ i = .int .i64 k ∧ Own wr w.heap.size (some ⟨w1.heap.size, 0, none⟩) W (leB k N ++ List.replicate (W - k) 0) ∧ Below w.heap.size w wr) (fun i _ => W - (intOf i).toNat)
    case atStart => exact ⟨0, Nat.zero_le _, rfl, hown, bel_trans hb hb2 hz⟩
    case round =>
      obtain ⟨k, hk, rfl, hown, hb⟩ := hrel
      by_cases hlt : k < W
      · have hl : k < (leB k N ++ List.replicate (W - k) 0).length := by simp [leB_length]; omega
        have hc := hown.cell k hl
        have hfz := hown.frozen k
        go_wp2_with fail
        go_roundw
        case rel =>
          refine ⟨k + 1, by omega, by go_num, ?_, hb.setCell hz _⟩
          rw [shr_byte]
          have h1 := hown.set k (UInt8.ofNat (N / 256 ^ k))
          have h2 := set_mid (leB k N) (W - k) (UInt8.ofNat (N / 256 ^ k)) (by omega)
          rw [leB_length] at h2
          rw [h2, ← leB_succ, Nat.sub_sub] at h1
          exact h1
        case measure => simp [intOf]; omega
      · go_wp2_with fail
        go_ret2
        obtain rfl : k = W := by omega
        simp only [Nat.sub_self, List.replicate_zero, List.append_nil] at hown
        exact ⟨_, _, by rw [leB_length]; rfl, hown, hb⟩

/-- the error of a part -/
def pieceE (l : List UInt8) (at_ n : Int) : Int := if at_ < 0 ∨ (l.length : Int) < at_ then 2 else if (l.length : Int) - at_ < n then 10 else 0

theorem getE_one (l : List UInt8) (at_ : Int) : getE l at_ 1 = pieceE l at_ 1 := by simp [getE, pieceE, isWidth]
theorem getE_piece {l : List UInt8} {at_ width : Int} (h : isWidth width = true) : getE l at_ width = pieceE l at_ width := by simp [getE, pieceE, h]

/-- a number, a place, an error -/
def RetG (w : World) (n p e : Int) : Ending → World → Prop := RetV w (.tuple #[.int .i64 n, .int .i64 p, .int .i64 e])

theorem take_rev_step (l : List UInt8) (W k : Nat) (hW : l.length = W) (hk : k < W) :
    leN (l.drop (W - (k + 1))) = leN (l.drop (W - k)) * 256 + (l[W - 1 - k]'(by omega)).toNat := by
  have e : l.drop (W - (k + 1)) = (l[W - 1 - k]'(by omega)) :: l.drop (W - k) := by
    rw [show W - (k + 1) = W - 1 - k by omega, List.drop_eq_getElem_cons (by omega), show W - 1 - k + 1 = W - k by omega]
  rw [e, leN]; omega

theorem or_byte (n c : Nat) (hc : c < 256) : (n * 256 ||| c) = n * 256 + c := by
  have := Nat.two_pow_add_eq_or_of_lt (i := 8) (b := c) (by omega) n
  rw [Nat.mul_comm] at this
  exact this.symm

set_option maxHeartbeats 400000 in
theorem join_any (A : Option Addr) (c : Nat) (ls : List (List UInt8)) (w : World) (hr : RdL w A ls) (hc : ls.length ≤ c) (hm : c ≤ maxLen) (hs : ls.flatten.length ≤ 140737488355328) :
    Calls Try.prog 12 #[.slice A ls.length c] w (RetB w ls.flatten) := by
  unfold maxLen at hm
  go_enter Try.func12, Try.ntmps12
  go_wp2_with fail
  go_loopw [3, 8] (fun v i wr => ∃ (k : Nat) (A1 : Option Addr) (c1 : Nat), k ≤ ls.length ∧ i = .int .i64 k ∧ v = .slice A1 (ls.take k).flatten.length c1 ∧ Own wr w.heap.size A1 c1 (ls.take k).flatten ∧ Below w.heap.size w wr) (fun _ i _ => ls.length - (intOf i).toNat)
  case atStart => exact ⟨0, none, 0, Nat.zero_le _, rfl, rfl, Own.none_ _ _, Below.refl _ _⟩
  case round =>
    obtain ⟨k, A1, c1, hk, rfl, rfl, hown, hb⟩ := hrel
    by_cases hlt : k < ls.length
    · obtain ⟨b, o, rfl, A2, c2, hcell, hr2⟩ := (hr.below hb).at_ hlt
      have hlen := Nat.le_trans (flatten_take_le ls k hlt) hs
      obtain ⟨P, HP⟩ : ∃ P, Hid (P = (ls.take k).flatten) := ⟨_, Lib.hid rfl⟩
      obtain ⟨X, HX⟩ : ∃ X, Hid (X = ls[k]) := ⟨_, Lib.hid rfl⟩
      rw [← HP.out] at hown hlen ⊢
      rw [← HX.out] at hr2 hlen hcell
      go_wp2_with (at_builtin; refine wpList_append_bytes _ rfl _ _ rfl w.heap.size A1 P.length c1 P rfl rfl hown A2 X.length c2 X rfl rfl hr2 hlen hb.size ?_; intro A3 c3 w3 hown3 hb3 _)
      go_roundw
      case measure => simp [intOf]; omega
      case rel =>
        have e : P ++ X = (ls.take (k + 1)).flatten := by rw [flatten_take_succ ls k hlt, HP.out, HX.out]
        rw [e] at hown3
        exact ⟨k + 1, A3, c3, by omega, by go_num, by rw [← e, List.length_append], hown3, hb.trans hb3⟩
    · obtain rfl : k = ls.length := by omega
      rw [List.take_length] at hown ⊢
      go_wp2_with fail
      go_ret
      exact ⟨A1, c1, rfl, hown, hb⟩
end Go.Proofs.Ytahfippapknolaa
