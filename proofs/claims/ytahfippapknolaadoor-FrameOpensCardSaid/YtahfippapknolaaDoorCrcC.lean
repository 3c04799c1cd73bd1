/-
  THE WALKS OF CRC, MORE: sums, the reference's sums, in how many bits rows differ.
-/
import Derived.Test.YtahfippapknolaaDoorCrcB
namespace Go.Proofs.YtahfippapknolaaDoor
open Go.RowKit
set_option linter.unusedVariables false

theorem stp_feed (r x : Nat) : stp (r ^^^ x) = stp (r ^^^ (x % 2)) ^^^ (x / 2) := by
  have h : x = (x % 2) ^^^ (x / 2 * 2) := by
    apply Nat.eq_of_testBit_eq
    intro i
    rw [Nat.testBit_xor]
    rcases i with _ | i
    · simp only [Nat.testBit_zero]
      have h1 : x / 2 * 2 % 2 = 0 := by omega
      have h2 : x % 2 % 2 = x % 2 := by omega
      rw [h1, h2]; simp
    · rw [Nat.testBit_succ, Nat.testBit_succ, Nat.testBit_succ, show x % 2 / 2 = 0 by omega, show x / 2 * 2 / 2 = x / 2 by omega]
      simp
  conv => lhs; rw [h, ← Nat.xor_assoc, stp_xor]
  congr 1
  unfold stp
  rw [if_neg (by omega)]
  omega

set_option maxHeartbeats 1000000 in
theorem rextend_any (s : Nat) (A : Option Addr) (c : Nat) (l : List UInt8) (n : Nat) (w : World) (hs : s < 4294967296) (hr : Rd w A l) (hm : l.length ≤ maxLen) (hn : n = l.length) :
    Calls Tryd.prog 57 #[.int .u32 s, .slice A n c] w fun e w' => e = .returned (.int .u32 (ext s l : Nat)) ∧ w = w' := by
  subst hn
  unfold maxLen at hm
  have HS : Hid (4294967295 - s = 4294967295 ^^^ s) := Lib.hid (ones_xor s hs).symm
  go_enter Tryd.func57, Tryd.ntmps57
  go_wp2_with fail
  go_loop [5, 6] (fun r i => ∃ k x : Nat, k ≤ l.length ∧ i = .int .i64 k ∧ r = .int .u32 x ∧ x < 4294967296 ∧ Hid (x = reg (4294967295 ^^^ s) (l.take k))) (fun _ i => l.length - (intOf i).toNat)
  case atStart => exact ⟨0, 4294967295 - s, Nat.zero_le _, rfl, by go_num, by omega, Lib.hid (by rw [HS.out]; rfl)⟩
  case round =>
    obtain ⟨k, x, hk, rfl, rfl, hx, HX⟩ := hrel
    by_cases hlt : k < l.length
    · obtain ⟨b, o, rfl, hcl⟩ := hr.at_ hlt
      have hcell := hcl k hlt
      obtain ⟨y, HY⟩ : ∃ y, Hid (y = l[k].toNat) := ⟨_, Lib.hid rfl⟩
      have hy : y < 256 := by rw [HY.out]; exact l[k].toNat_lt
      rw [← HY.out] at hcell
      clear hcl
      obtain ⟨T, HT⟩ : ∃ T, Hid (T = stn 8 (x ^^^ y)) := ⟨_, Lib.hid rfl⟩
      have HTK : Hid (T = reg (4294967295 ^^^ s) (l.take (k + 1))) := Lib.hid (by
        rw [List.take_succ_eq_append_getElem hlt, reg_append, ← HX.out]
        show T = crcB x l[k]
        unfold crcB
        rw [← HY.out, HT.out])
      go_wp2_with fail
      go_loop [5, 7, 8] (fun r v j => ∃ m p q : Nat, m ≤ 8 ∧ j = .int .i64 m ∧ r = .int .u32 p ∧ v = .int .u32 q ∧ p < 4294967296 ∧ q < 256 ∧ Hid (q < 2 ^ (8 - m)) ∧ Hid (T = stn (8 - m) (p ^^^ q))) (fun _ _ j => 8 - (intOf j).toNat)
      case atStart => exact ⟨0, x, y, by omega, rfl, rfl, rfl, hx, hy, Lib.hid hy, Lib.hid HT.out⟩
      case round =>
        obtain ⟨m, p, q, hm8, rfl, rfl, rfl, hp, hq, HQ, HP⟩ := hrel
        by_cases hlt2 : m < 8
        · have hsp : stp (p ^^^ (q % 2)) < 4294967296 := stp_lt (Nat.xor_lt_two_pow (n := 32) hp (by omega))
          obtain ⟨z, HZ⟩ : ∃ z, Hid (z = stp (p ^^^ (q % 2))) := ⟨_, Lib.hid rfl⟩
          rw [← HZ.out] at hsp
          go_wp2_with fail
          rw [show ((q : Int) % 2) = ((q % 2 : Nat) : Int) from rfl]
          refine (cin_any p (q % 2) _ hp (by omega)).mono ?_
          rw [← HZ.out]
          rintro e w1 ⟨rfl, rfl⟩
          go_wp2_with fail
          go_round
          case measure => simp [intOf]; omega
          case rel =>
            refine ⟨m + 1, z, q / 2, by omega, by go_num, rfl, by go_num, hsp, by omega, Lib.hid ?_, Lib.hid ?_⟩
            · have := HQ.out
              rw [show 8 - m = (8 - (m + 1)) + 1 by omega, Nat.pow_succ] at this
              omega
            · rw [HP.out, HZ.out, show 8 - m = (8 - (m + 1)) + 1 by omega, stn, stp_feed]
        · obtain rfl : m = 8 := by omega
          have HPT : Hid (p = T) := Lib.hid (by
            have h1 := HQ.out
            have h2 := HP.out
            have h3 : q = 0 := by simpa using h1
            rw [h3, Nat.xor_zero] at h2
            exact h2.symm)
          go_wp2_with fail
          go_round
          case measure => simp [intOf]; omega
          case rel => exact ⟨k + 1, p, by omega, by go_num, rfl, hp, Lib.hid (by rw [HPT.out, HTK.out])⟩
    · obtain rfl : k = l.length := by omega
      have E : Hid (4294967295 - x = ext s l) := Lib.hid (by
        have h2 := HX.out
        rw [List.take_length] at h2
        rw [ext, ← h2, ones_xor x hx])
      go_wp2_with fail
      go_ret
      refine ⟨?_, rfl⟩
      rw [← E.out]
      exact ret_int (by omega)

theorem sum_any (A : Option Addr) (c : Nat) (l : List UInt8) (n : Nat) (w : World) (hr : Rd w A l) (hm : l.length ≤ maxLen) (hn : n = l.length) :
    Calls Tryd.prog 23 #[.slice A n c] w (RetV w (.int .u32 (sum l : Nat))) := by
  subst hn
  go_enter Tryd.func23, Tryd.ntmps23
  go_wp2_with fail
  refine (extend_any 0 A c l _ _ (by omega) hr hm rfl).mono ?_
  rintro e w1 ⟨rfl, hb⟩
  go_wp2_with fail
  go_ret
  exact ⟨rfl, hb⟩

theorem rsum_any (A : Option Addr) (c : Nat) (l : List UInt8) (n : Nat) (w : World) (hr : Rd w A l) (hm : l.length ≤ maxLen) (hn : n = l.length) :
    Calls Tryd.prog 43 #[.slice A n c] w fun e w' => e = .returned (.int .u32 (sum l : Nat)) ∧ w = w' := by
  subst hn
  go_enter Tryd.func43, Tryd.ntmps43
  go_wp2_with fail
  refine (rextend_any 0 A c l _ _ (by omega) hr hm rfl).mono ?_
  rintro e w1 ⟨rfl, rfl⟩
  go_wp2_with fail
  go_ret
  exact ⟨rfl, rfl⟩

theorem popk_le (k n : Nat) : popk k n ≤ k := by
  induction k generalizing n with
  | zero => exact Nat.le_refl _
  | succ k ih => have := ih (n / 2); simp only [popk]; omega
theorem rowX_take_succ {a b : List UInt8} (k : Nat) (h1 : k < a.length) (h2 : k < b.length) : rowX (a.take (k + 1)) (b.take (k + 1)) = rowX (a.take k) (b.take k) ++ [a[k] ^^^ b[k]] := by
  unfold rowX
  rw [← List.take_zipWith, ← List.take_zipWith, List.take_succ_eq_append_getElem (by simp; omega)]
  simp
theorem popL_append (l m : List UInt8) : popL (l ++ m) = popL l + popL m := by simp [popL]
theorem popL_one (x : UInt8) : popL [x] = popk 8 x.toNat := by simp [popL, popB]

end Go.Proofs.YtahfippapknolaaDoor
