/-
  THE WALKS OF CRC, MORE: sums, the reference's sums, in how many bits rows differ.
-/
import Derived.Test.YtolkdmelmpfmoaaCrcB
namespace Go.Proofs.Ytolkdmelmpfmoaa
open Go.RowKit
set_option linter.unusedVariables false

theorem stp_feed (r x : Nat) : stp (r ^^^ x) = stp (r ^^^ (x % 2)) ^^^ (x / 2) := by
  have h : x = (x % 2) ^^^ (x / 2 * 2) := by
    apply Nat.eq_of_testBit_eq
    intro i
    rw [Nat.testBit_xor]
    rcases i with _ | i
    · simp only [Nat.testBit_zero]
      have h1 : x / 2 * 2 % 2 = 0 := by omega
      have h2 : x % 2 % 2 = x % 2 := by omega
      rw [h1, h2]; simp
    · rw [Nat.testBit_succ, Nat.testBit_succ, Nat.testBit_succ, show x % 2 / 2 = 0 by omega, show x / 2 * 2 / 2 = x / 2 by omega]
      simp
  conv => lhs; rw [h, ← Nat.xor_assoc, stp_xor]
  congr 1
  unfold stp
  rw [if_neg (by omega)]
  omega

set_option maxHeartbeats 1000000 in
theorem rextend_any (s : Nat) (A : Option Addr) (c : Nat) (l : List UInt8) (n : Nat) (w : World) (hs : s < 4294967296) (hr : Rd w A l) (hm : l.length ≤ maxLen) (hn : n = l.length) :
    Calls Try.prog 18 #[.int .u32 s, .slice A n c] w fun e w' => e = .returned (.int .u32 (ext s l : Nat)) ∧ w = w' := by
  subst hn
  unfold maxLen at hm
  have HS : Hid (4294967295 - s = 4294967295 ^^^ s) := Lib.hid (ones_xor s hs).symm
  go_enter Try.func18, Try.ntmps18
  go_wp2_with fail
  go_loop [5, 6] (fun r i => ∃ k x : Nat, k ≤ l.length ∧ i = .int .i64 k ∧ r = .int .u32 x ∧ x < 4294967296 ∧ Hid (x = reg (4294967295 ^^^ s) (l.take k))) (fun _ i => l.length - (intOf i).toNat)
  case atStart => exact ⟨0, 4294967295 - s, Nat.zero_le _, rfl, by go_num, by omega, Lib.hid (by rw [HS.out]; rfl)⟩
  case round =>
    obtain ⟨k, x, hk, rfl, rfl, hx, HX⟩ := hrel
    by_cases hlt : k < l.length
    · obtain ⟨b, o, rfl, hcl⟩ := hr.at_ hlt
      have hcell := hcl k hlt
      obtain ⟨y, HY⟩ : ∃ y, Hid (y = l[k].toNat) := ⟨_, Lib.hid rfl⟩
      have hy : y < 256 := by rw [HY.out]; exact l[k].toNat_lt
      rw [← HY.out] at hcell
      clear hcl
      obtain ⟨T, HT⟩ : ∃ T, Hid (T = stn 8 (x ^^^ y)) := ⟨_, Lib.hid rfl⟩
      have HTK : Hid (T = reg (4294967295 ^^^ s) (l.take (k + 1))) := Lib.hid (by
        rw [List.take_succ_eq_append_getElem hlt, reg_append, ← HX.out]
        show T = inB x l[k]
        unfold inB
        rw [← HY.out, HT.out])
      go_wp2_with fail
      go_loop [5, 7, 8] (fun r v j => ∃ m p q : Nat, m ≤ 8 ∧ j = .int .i64 m ∧ r = .int .u32 p ∧ v = .int .u32 q ∧ p < 4294967296 ∧ q < 256 ∧ Hid (q < 2 ^ (8 - m)) ∧ Hid (T = stn (8 - m) (p ^^^ q))) (fun _ _ j => 8 - (intOf j).toNat)
      case atStart => exact ⟨0, x, y, by omega, rfl, rfl, rfl, hx, hy, Lib.hid hy, Lib.hid HT.out⟩
      case round =>
        obtain ⟨m, p, q, hm8, rfl, rfl, rfl, hp, hq, HQ, HP⟩ := hrel
        by_cases hlt2 : m < 8
        · have hsp : stp (p ^^^ (q % 2)) < 4294967296 := stp_lt (Nat.xor_lt_two_pow (n := 32) hp (by omega))
          obtain ⟨z, HZ⟩ : ∃ z, Hid (z = stp (p ^^^ (q % 2))) := ⟨_, Lib.hid rfl⟩
          rw [← HZ.out] at hsp
          go_wp2_with fail
          rw [show ((q : Int) % 2) = ((q % 2 : Nat) : Int) from rfl]
          refine (in_any p (q % 2) _ hp (by omega)).mono ?_
          rw [← HZ.out]
          rintro e w1 ⟨rfl, rfl⟩
          go_wp2_with fail
          go_round
          case measure => simp [intOf]; omega
          case rel =>
            refine ⟨m + 1, z, q / 2, by omega, by go_num, rfl, by go_num, hsp, by omega, Lib.hid ?_, Lib.hid ?_⟩
            · have := HQ.out
              rw [show 8 - m = (8 - (m + 1)) + 1 by omega, Nat.pow_succ] at this
              omega
            · rw [HP.out, HZ.out, show 8 - m = (8 - (m + 1)) + 1 by omega, stn, stp_feed]
        · obtain rfl : m = 8 := by omega
          have HPT : Hid (p = T) := Lib.hid (by
            have h1 := HQ.out
            have h2 := HP.out
            have h3 : q = 0 := by simpa using h1
            rw [h3, Nat.xor_zero] at h2
            exact h2.symm)
          go_wp2_with fail
          go_round
          case measure => simp [intOf]; omega
          case rel => exact ⟨k + 1, p, by omega, by go_num, rfl, hp, Lib.hid (by rw [HPT.out, HTK.out])⟩
    · obtain rfl : k = l.length := by omega
      have E : Hid (4294967295 - x = ext s l) := Lib.hid (by
        have h2 := HX.out
        rw [List.take_length] at h2
        rw [ext, ← h2, ones_xor x hx])
      go_wp2_with fail
      go_ret
      refine ⟨?_, rfl⟩
      rw [← E.out]
      exact ret_int (by omega)

theorem sum_any (A : Option Addr) (c : Nat) (l : List UInt8) (n : Nat) (w : World) (hr : Rd w A l) (hm : l.length ≤ maxLen) (hn : n = l.length) :
    Calls Try.prog 15 #[.slice A n c] w (RetV w (.int .u32 (sum l : Nat))) := by
  subst hn
  go_enter Try.func15, Try.ntmps15
  go_wp2_with fail
  refine (extend_any 0 A c l _ _ (by omega) hr hm rfl).mono ?_
  rintro e w1 ⟨rfl, hb⟩
  go_wp2_with fail
  go_ret
  exact ⟨rfl, hb⟩

theorem rsum_any (A : Option Addr) (c : Nat) (l : List UInt8) (n : Nat) (w : World) (hr : Rd w A l) (hm : l.length ≤ maxLen) (hn : n = l.length) :
    Calls Try.prog 16 #[.slice A n c] w fun e w' => e = .returned (.int .u32 (sum l : Nat)) ∧ w = w' := by
  subst hn
  go_enter Try.func16, Try.ntmps16
  go_wp2_with fail
  refine (rextend_any 0 A c l _ _ (by omega) hr hm rfl).mono ?_
  rintro e w1 ⟨rfl, rfl⟩
  go_wp2_with fail
  go_ret
  exact ⟨rfl, rfl⟩

theorem popk_le (k n : Nat) : popk k n ≤ k := by
  induction k generalizing n with
  | zero => exact Nat.le_refl _
  | succ k ih => have := ih (n / 2); simp only [popk]; omega
theorem rowX_take_succ {a b : List UInt8} (k : Nat) (h1 : k < a.length) (h2 : k < b.length) : rowX (a.take (k + 1)) (b.take (k + 1)) = rowX (a.take k) (b.take k) ++ [a[k] ^^^ b[k]] := by
  unfold rowX
  rw [← List.take_zipWith, ← List.take_zipWith, List.take_succ_eq_append_getElem (by simp; omega)]
  simp
theorem popL_append (l m : List UInt8) : popL (l ++ m) = popL l + popL m := by simp [popL]
theorem popL_one (x : UInt8) : popL [x] = popk 8 x.toNat := by simp [popL, popB]

set_option maxHeartbeats 1000000 in
theorem turned_any (A B : Option Addr) (c d : Nat) (a b : List UInt8) (w : World) (hra : Rd w A a) (hrb : Rd w B b) (ha : a.length ≤ 1099511627776) (hb : b.length ≤ 1099511627776) :
    Calls Try.prog 12 #[.slice A a.length c, .slice B b.length d] w fun e w' => e = .returned (.int .i64 (turned a b)) ∧ w = w' := by
  by_cases hl : a.length = b.length
  · have E : turned a b = (popL (rowX a b) : Nat) := by unfold turned; rw [if_pos hl]
    obtain ⟨T, HT⟩ : ∃ T, Hid (T = popL (rowX a b)) := ⟨_, Lib.hid rfl⟩
    rw [E, ← HT.out]
    have HL := Lib.hid hl
    have hne : ((a.length : Int) != (b.length : Int)) = false := by simp; omega
    clear E hl
    go_enter Try.func12, Try.ntmps12
    go_wp2_with fail
    go_loop [5, 15] (fun s i => ∃ k p : Nat, k ≤ a.length ∧ i = .int .i64 k ∧ s = .int .i64 p ∧ p ≤ 8 * k ∧ Hid (p = popL (rowX (a.take k) (b.take k)))) (fun _ i => a.length - (intOf i).toNat)
    case atStart => exact ⟨0, 0, Nat.zero_le _, rfl, rfl, by omega, Lib.hid rfl⟩
    case round =>
      obtain ⟨k, p, hk, rfl, rfl, hp, HP⟩ := hrel
      by_cases hlt : k < a.length
      · have hlt2 : k < b.length := by have := HL.out; omega
        obtain ⟨b1, o1, rfl, hc1⟩ := hra.at_ hlt
        obtain ⟨b2, o2, rfl, hc2⟩ := hrb.at_ hlt2
        have h1 := hc1 k hlt
        have h2 := hc2 k hlt2
        have HX := rowX_take_succ k hlt hlt2
        obtain ⟨x, Hx⟩ : ∃ x, Hid (x = a[k].toNat) := ⟨_, Lib.hid rfl⟩
        obtain ⟨y, Hy⟩ : ∃ y, Hid (y = b[k].toNat) := ⟨_, Lib.hid rfl⟩
        have hx : x < 256 := by rw [Hx.out]; exact a[k].toNat_lt
        have hy : y < 256 := by rw [Hy.out]; exact b[k].toNat_lt
        obtain ⟨z, Hz⟩ : ∃ z, Hid (z = x ^^^ y) := ⟨_, Lib.hid rfl⟩
        have hz : z < 256 := by rw [Hz.out]; exact Nat.xor_lt_two_pow (n := 8) hx hy
        have ez : bits BinOp.xor IntKind.u8 (x : Int) (y : Int) = (z : Int) := by rw [u8_xor _ _ hx hy, Hz.out]
        have HPX : Hid (p + popk 8 z = popL (rowX (a.take (k + 1)) (b.take (k + 1)))) := Lib.hid (by
          rw [HX, popL_append, popL_one, UInt8.toNat_xor, ← Hx.out, ← Hy.out, ← Hz.out, HP.out])
        have hpz := popk_le 8 z
        obtain ⟨v, Hv⟩ : ∃ v, Hid (v = popk 8 z) := ⟨_, Lib.hid rfl⟩
        rw [← Hv.out] at hpz
        rw [← Hx.out] at h1
        rw [← Hy.out] at h2
        clear hc1 hc2 HX
        go_wp2_with fail
        refine (ones_any z _ hz).mono ?_
        rw [← Hv.out]
        rintro e w1 ⟨rfl, rfl⟩
        go_wp2_with fail
        go_round
        case measure => simp [intOf]; omega
        case rel => exact ⟨k + 1, p + v, by omega, by go_num, by go_num, by omega, Lib.hid (by rw [Hv.out, HPX.out])⟩
      · obtain rfl : k = a.length := by omega
        have E : Hid (p = T) := Lib.hid (by
          have h2 := HP.out
          rw [List.take_length, List.take_of_length_le (by have := HL.out; omega)] at h2
          rw [h2, HT.out])
        go_wp2_with fail
        go_ret
        exact ⟨by rw [← E.out]; rfl, rfl⟩
  · have E : turned a b = -1 := by unfold turned; rw [if_neg hl]
    rw [E]
    have hne : ((a.length : Int) != (b.length : Int)) = true := by simp; omega
    clear E hl
    go_enter Try.func12, Try.ntmps12
    go_wp2_with fail
    go_ret
    exact ⟨rfl, rfl⟩

set_option maxHeartbeats 1000000 in
theorem rturned_any (A B : Option Addr) (c d : Nat) (a b : List UInt8) (w : World) (hra : Rd w A a) (hrb : Rd w B b) (ha : a.length ≤ 1099511627776) (hb : b.length ≤ 1099511627776) :
    Calls Try.prog 13 #[.slice A a.length c, .slice B b.length d] w (RetV w (.int .i64 (turned a b))) := by
  by_cases hl : a.length = b.length
  · have E : turned a b = (popL (rowX a b) : Nat) := by unfold turned; rw [if_pos hl]
    obtain ⟨T, HT⟩ : ∃ T, Hid (T = popL (rowX a b)) := ⟨_, Lib.hid rfl⟩
    rw [E, ← HT.out]
    have HL := Lib.hid hl
    have hne : ((a.length : Int) != (b.length : Int)) = false := by simp; omega
    clear E hl
    go_enter Try.func13, Try.ntmps13
    go_wp2_with fail
    go_loopw [5, 6] (fun s i wr => ∃ k p : Nat, k ≤ a.length ∧ i = .int .i64 k ∧ s = .int .i64 p ∧ p ≤ 8 * k ∧ Hid (p = popL (rowX (a.take k) (b.take k))) ∧ Below w.heap.size w wr) (fun _ i _ => a.length - (intOf i).toNat)
    case atStart => exact ⟨0, 0, Nat.zero_le _, rfl, rfl, by omega, Lib.hid rfl, Below.refl _ _⟩
    case round =>
      obtain ⟨k, p, hk, rfl, rfl, hp, HP, hbel⟩ := hrel
      by_cases hlt : k < a.length
      · have hlt2 : k < b.length := by have := HL.out; omega
        obtain ⟨b1, o1, rfl, hc1⟩ := (hra.below hbel).at_ hlt
        obtain ⟨b2, o2, rfl, hc2⟩ := (hrb.below hbel).at_ hlt2
        have h1 := hc1 k hlt
        have h2 := hc2 k hlt2
        have HX := rowX_take_succ k hlt hlt2
        obtain ⟨x, Hx⟩ : ∃ x, Hid (x = a[k].toNat) := ⟨_, Lib.hid rfl⟩
        obtain ⟨y, Hy⟩ : ∃ y, Hid (y = b[k].toNat) := ⟨_, Lib.hid rfl⟩
        have hx : x < 256 := by rw [Hx.out]; exact a[k].toNat_lt
        have hy : y < 256 := by rw [Hy.out]; exact b[k].toNat_lt
        obtain ⟨z, Hz⟩ : ∃ z, Hid (z = x ^^^ y) := ⟨_, Lib.hid rfl⟩
        have hz : z < 256 := by rw [Hz.out]; exact Nat.xor_lt_two_pow (n := 8) hx hy
        have ez : bits BinOp.xor IntKind.u8 (x : Int) (y : Int) = (z : Int) := by rw [u8_xor _ _ hx hy, Hz.out]
        have HPX : Hid (p + popk 8 z = popL (rowX (a.take (k + 1)) (b.take (k + 1)))) := Lib.hid (by
          rw [HX, popL_append, popL_one, UInt8.toNat_xor, ← Hx.out, ← Hy.out, ← Hz.out, HP.out])
        have hpz := popk_le 8 z
        obtain ⟨v, Hv⟩ : ∃ v, Hid (v = popk 8 z) := ⟨_, Lib.hid rfl⟩
        rw [← Hv.out] at hpz
        rw [← Hx.out] at h1
        rw [← Hy.out] at h2
        clear hc1 hc2 HX
        obtain ⟨wo, rfl⟩ : ∃ wo : World, wo = wr := ⟨_, rfl⟩
        go_wp2_with fail
        go_quiet (fail)
        go_wp2_with fail
        go_loopw [5, 7] (fun s u wi => ∃ m q t : Nat, s = .int .i64 q ∧ u = .int .u8 t ∧ m ≤ 8 ∧ q ≤ p + v ∧ Hid (t < 2 ^ m) ∧ t < 256 ∧ q + 8 ≤ p + 8 + v ∧ Hid (q + popk m t = p + v) ∧ Below w.heap.size w wi) (fun _ u _ => (intOf u).toNat)
        case atStart => exact ⟨8, p, z, rfl, rfl, by omega, by omega, Lib.hid hz, hz, by omega, Lib.hid (by rw [Hv.out]), ⟨hbel.os, hbel.tape, hbel.output, hbel.size, hbel.block⟩⟩
        case round =>
          obtain ⟨m, q, t, rfl, rfl, hm8, hq, Htm, ht, hq2, HQ, hbi⟩ := hrel
          by_cases h0 : t = 0
          · have hpz0 : ∀ m, popk m 0 = 0 := by
              intro m
              induction m with
              | zero => rfl
              | succ m ih => simp [popk, ih]
            have HE : Hid (q = p + v) := Lib.hid (by
              have h3 := HQ.out
              rw [h0, hpz0] at h3
              omega)
            have hn0 : ¬ (0 : Int) < (t : Int) := by omega
            clear h0 hpz0
            go_wp2_with fail
            go_roundw
            case measure => simp [intOf]; omega
            case rel => exact ⟨k + 1, p + v, by omega, by go_num, by rw [HE.out], by omega, Lib.hid (by rw [Hv.out, HPX.out]), hbi⟩
          · obtain ⟨m, rfl⟩ : ∃ j, m = j + 1 := by
              rcases m with _ | m
              · have := Htm.out; simp at this; omega
              · exact ⟨m, rfl⟩
            have hn0 : (0 : Int) < (t : Int) := by omega
            have HQ2 : Hid (q + t % 2 + popk m (t / 2) = p + v) := Lib.hid (by
              have h3 := HQ.out
              simp only [popk] at h3
              omega)
            have hle : q + t % 2 ≤ p + v := by have := HQ2.out; omega
            have Ht2 : Hid (t / 2 < 2 ^ m) := Lib.hid (by have := Htm.out; rw [Nat.pow_succ] at this; omega)
            clear h0
            go_wp2_with fail
            go_roundw
            case measure => simp [intOf]; omega
            case rel => exact ⟨m, q + t % 2, t / 2, by go_num, by go_num, by omega, hle, Ht2, by omega, by omega, HQ2, hbi⟩
      · obtain rfl : k = a.length := by omega
        have E : Hid (p = T) := Lib.hid (by
          have h2 := HP.out
          rw [List.take_length, List.take_of_length_le (by have := HL.out; omega)] at h2
          rw [h2, HT.out])
        go_wp2_with fail
        go_ret
        exact ⟨by rw [← E.out]; rfl, hbel⟩
  · have E : turned a b = -1 := by unfold turned; rw [if_neg hl]
    rw [E]
    have hne : ((a.length : Int) != (b.length : Int)) = true := by simp; omega
    clear E hl
    go_enter Try.func13, Try.ntmps13
    go_wp2_with fail
    go_ret
    exact ⟨rfl, Below.refl _ _⟩

set_option maxHeartbeats 400000 in
theorem row_any (n x : Nat) (w : World) (hn : n ≤ 1000000) (hx : x < 256) :
    Calls Try.prog 28 #[.int .i64 n, .int .u8 x] w (RetB w (List.replicate n (UInt8.ofNat x))) := by
  obtain ⟨X, HX⟩ : ∃ X, Hid (X = UInt8.ofNat x) := ⟨_, Lib.hid rfl⟩
  have hX : (X.toNat : Int) = x := by rw [HX.out, UInt8.toNat_ofNat']; omega
  rw [← HX.out]
  have HX2 := Lib.hid hX
  clear hX
  go_enter Try.func28, Try.ntmps28
  go_wp2_with fail
  go_loopw [5, 6] (fun v i wr => ∃ (k : Nat) (A : Option Addr) (c : Nat) (L : List UInt8), k ≤ n ∧ i = .int .i64 k ∧ v = .slice A L.length c ∧ L.length ≤ 1000000 ∧ Hid (L = List.replicate k X) ∧ Own wr w.heap.size A c L ∧ Below w.heap.size w wr) (fun _ i _ => n - (intOf i).toNat)
  case atStart => exact ⟨0, none, 0, [], Nat.zero_le _, rfl, rfl, by simp, Lib.hid rfl, Own.none_ _ _, Below.refl _ _⟩
  case round =>
    obtain ⟨k, A, c, L, hk, rfl, rfl, hL6, HL, hown, hb⟩ := hrel
    have hz := hb.size
    by_cases hlt : k < n
    · go_wp2_with (at_builtin; refine wpList_append_bytes _ rfl _ _ rfl w.heap.size A L.length c L rfl rfl (hown.alloc _) (some ⟨wr.heap.size, 0, none⟩) 1 1 [X] rfl rfl (rd_lit _ _ _ ?_) ?_ ?_ ?_)
      · simp only [bvs, List.map_cons, List.map_nil, HX2.out]
      · simp; omega
      · simp; omega
      intro A1 c1 w1 hown1 hb1 _
      go_wp2_with fail
      go_roundw
      case measure => simp [intOf]; omega
      case rel =>
        have hll : L.length = k := by rw [HL.out]; simp
        exact ⟨k + 1, A1, c1, L ++ [X], by omega, by go_num, by simp, by simp; omega, Lib.hid (by rw [HL.out, List.replicate_succ']), hown1, (hb.alloc hz _).trans hb1⟩
    · obtain rfl : k = n := by omega
      go_wp2_with fail
      go_ret
      exact ⟨A, c, by rw [← HL.out]; rfl, by rw [← HL.out]; exact hown, hb⟩
end Go.Proofs.Ytolkdmelmpfmoaa
