/-
  THE WALKS OF CRC: Extend, Sum, times, power, Combine, Turned; the reference's.
-/
import Derived.Test.YtolkdmelmpfmoaaCrc
namespace Go.Proofs.Ytolkdmelmpfmoaa
open Go.RowKit
set_option linter.unusedVariables false

theorem stn4_split (x : Nat) : stn 4 x = (x / 16) ^^^ stn 4 (x % 16) := by
  have h : x = (x / 16 * 16) ^^^ (x % 16) := by
    have h2 := Nat.two_pow_add_eq_or_of_lt (i := 4) (b := x % 16) (by omega) (x / 16)
    have h3 : x / 16 * 16 ^^^ x % 16 = x / 16 * 16 ||| x % 16 := by
      apply Nat.eq_of_testBit_eq
      intro i
      rw [Nat.testBit_xor, Nat.testBit_or]
      by_cases hi : i < 4
      · have : (x / 16 * 16).testBit i = false := by
          rw [show x / 16 * 16 = 2 ^ 4 * (x / 16) by omega, Nat.testBit_two_pow_mul]
          simp; omega
        rw [this]; simp
      · have : (x % 16).testBit i = false := Nat.testBit_lt_two_pow (Nat.lt_of_lt_of_le (Nat.mod_lt _ (by omega)) (show 2 ^ 4 ≤ 2 ^ i from Nat.pow_le_pow_right (by omega) (by omega)))
        rw [this]; simp
    rw [h3, Nat.mul_comm, show 16 = 2 ^ 4 from rfl, ← h2, show (2 : Nat) ^ 4 = 16 from rfl]
    omega
  conv => lhs; rw [h, stn_xor]
  congr 1
  have h4 : ∀ y : Nat, stn 4 (y * 16) = y := by
    intro y
    have st : ∀ z : Nat, stp (z * 2) = z := fun z => by unfold stp; rw [if_neg (by omega)]; omega
    rw [show y * 16 = y * 2 * 2 * 2 * 2 by omega]
    simp only [stn, st]
  exact h4 _

theorem and_two_pow' (a k : Nat) : a &&& 2 ^ k = if a.testBit k then 2 ^ k else 0 := by
  apply Nat.eq_of_testBit_eq
  intro i
  rw [Nat.testBit_and, Nat.testBit_two_pow]
  by_cases hi : k = i
  · subst hi
    cases h : a.testBit k <;> simp
  · have h1 : decide (k = i) = false := by simp [hi]
    rw [h1, Bool.and_false]
    split
    · rw [Nat.testBit_two_pow, h1]
    · rw [Nat.zero_testBit]

theorem tab_at (j : Nat) (hj : j < 16) : tab[j]? = some (.int .u32 (stn 4 j : Nat)) := by simp [tab, hj]

set_option maxHeartbeats 1000000 in
theorem extend_any (s : Nat) (A : Option Addr) (c : Nat) (l : List UInt8) (n : Nat) (w : World) (hs : s < 4294967296) (hr : Rd w A l) (hm : l.length ≤ maxLen) (hn : n = l.length) :
    Calls Try.prog 17 #[.int .u32 s, .slice A n c] w (RetV w (.int .u32 (ext s l : Nat))) := by
  subst hn
  unfold maxLen at hm
  obtain ⟨x0, H0⟩ : ∃ x0, Hid (x0 = 4294967295 ^^^ s) := ⟨_, Lib.hid rfl⟩
  have hx0 : x0 < 4294967296 := by rw [H0.out]; exact Nat.xor_lt_two_pow (n := 32) (by omega) hs
  have e0 : bits BinOp.xor IntKind.u32 IntKind.u32.max (s : Int) = (x0 : Int) := by
    rw [H0.out, ← u32_xor _ _ (by omega) hs]; rfl
  go_enter Try.func17, Try.ntmps17
  go_wp2_with fail
  refine (halves_any _).mono ?_
  rw [tab_eq]
  rintro e w1 ⟨rfl, hb1⟩
  go_wp2_with fail
  rw [← tab_eq']
  have hcells : ∀ j, j < 16 → (w1.alloc (.cells tab.toArray 45)).cell? ⟨w1.heap.size, j, none⟩ = some (.int .u32 (stn 4 j : Nat)) := by
    intro j hj
    rw [cell_of_row _ _ _ _ _ _ (heap_alloc_new w1 _), List.getElem?_toArray]
    exact tab_at j hj
  have hbW : Below w.heap.size w (w1.alloc (.cells tab.toArray 45)) := hb1.alloc hb1.size _
  generalize w1.alloc (.cells tab.toArray 45) = W at hcells hbW ⊢
  have hrW := hr.below hbW
  obtain ⟨g, Hg⟩ : ∃ g, Hid (g = w1.heap.size) := ⟨_, Lib.hid rfl⟩
  rw [← Hg.out] at hcells ⊢
  generalize Value.agg tab.toArray = tv
  clear e0
  go_loop [6, 14] (fun r i => ∃ k x : Nat, k ≤ l.length ∧ i = .int .i64 k ∧ r = .int .u32 x ∧ x < 4294967296 ∧ Hid (x = reg x0 (l.take k))) (fun _ i => l.length - (intOf i).toNat)
  case atStart => exact ⟨0, x0, Nat.zero_le _, rfl, rfl, hx0, Lib.hid rfl⟩
  case round =>
    obtain ⟨k, x, hk, rfl, rfl, hx, HX⟩ := hrel
    by_cases hlt : k < l.length
    · obtain ⟨b, o, rfl, hcl⟩ := hrW.at_ hlt
      have hcell := hcl k hlt
      obtain ⟨y, HY⟩ : ∃ y, Hid (y = l[k].toNat) := ⟨_, Lib.hid rfl⟩
      have hy : y < 256 := by rw [HY.out]; exact l[k].toNat_lt
      rw [← HY.out] at hcell
      clear hcl
      obtain ⟨x1, H1⟩ : ∃ x1, Hid (x1 = x ^^^ y) := ⟨_, Lib.hid rfl⟩
      have hx1 : x1 < 4294967296 := by rw [H1.out]; exact Nat.xor_lt_two_pow (n := 32) hx (by omega)
      have e1 : bits BinOp.xor IntKind.u32 (x : Int) (y : Int) = (x1 : Int) := by rw [H1.out, ← u32_xor _ _ hx (by omega)]
      have a1 : bits BinOp.and IntKind.u32 (x1 : Int) 15 = ((x1 % 16 : Nat) : Int) := by
        rw [show (15 : Int) = ((15 : Nat) : Int) from rfl, u32_and _ _ hx1 (by omega), show (15 : Nat) = 2 ^ 4 - 1 from rfl, Nat.and_two_pow_sub_one_eq_mod]
      have t1 := hcells (x1 % 16) (by omega)
      obtain ⟨v1, V1⟩ : ∃ v, Hid (v = stn 4 (x1 % 16)) := ⟨_, Lib.hid rfl⟩
      have hv1 : v1 < 4294967296 := by rw [V1.out]; exact stn_lt 4 (by omega)
      rw [← V1.out] at t1
      obtain ⟨x2, H2⟩ : ∃ x2, Hid (x2 = x1 / 16 ^^^ v1) := ⟨_, Lib.hid rfl⟩
      have hx2 : x2 < 4294967296 := by rw [H2.out]; exact Nat.xor_lt_two_pow (n := 32) (by omega) hv1
      have e2 : bits BinOp.xor IntKind.u32 ((x1 : Int) / 16) (v1 : Int) = (x2 : Int) := by rw [H2.out, ← u32_xor _ _ (by omega) hv1]; rfl
      have a2 : bits BinOp.and IntKind.u32 (x2 : Int) 15 = ((x2 % 16 : Nat) : Int) := by
        rw [show (15 : Int) = ((15 : Nat) : Int) from rfl, u32_and _ _ hx2 (by omega), show (15 : Nat) = 2 ^ 4 - 1 from rfl, Nat.and_two_pow_sub_one_eq_mod]
      have t2 := hcells (x2 % 16) (by omega)
      obtain ⟨v2, V2⟩ : ∃ v, Hid (v = stn 4 (x2 % 16)) := ⟨_, Lib.hid rfl⟩
      have hv2 : v2 < 4294967296 := by rw [V2.out]; exact stn_lt 4 (by omega)
      rw [← V2.out] at t2
      obtain ⟨x3, H3⟩ : ∃ x3, Hid (x3 = x2 / 16 ^^^ v2) := ⟨_, Lib.hid rfl⟩
      have hx3 : x3 < 4294967296 := by rw [H3.out]; exact Nat.xor_lt_two_pow (n := 32) (by omega) hv2
      have e3 : bits BinOp.xor IntKind.u32 ((x2 : Int) / 16) (v2 : Int) = (x3 : Int) := by rw [H3.out, ← u32_xor _ _ (by omega) hv2]; rfl
      clear hcells
      go_wp2_with fail
      go_round
      case measure => simp [intOf]; omega
      case rel =>
        refine ⟨k + 1, x3, by omega, by go_num, rfl, hx3, Lib.hid ?_⟩
        rw [List.take_succ_eq_append_getElem hlt, reg_append, ← HX.out]
        show x3 = inB x l[k]
        unfold inB
        rw [← HY.out, ← H1.out, show (8 : Nat) = 4 + 4 from rfl, stn_add, stn4_split x1, ← V1.out, ← H2.out, stn4_split x2, ← V2.out, ← H3.out]
    · obtain rfl : k = l.length := by omega
      have ef : bits BinOp.xor IntKind.u32 IntKind.u32.max (x : Int) = ((ext s l : Nat) : Int) := by
        have h2 := HX.out
        rw [List.take_length] at h2
        rw [ext, ← H0.out, ← h2, ← u32_xor _ _ (by omega) hx]; rfl
      clear hcells
      go_wp2_with fail
      go_ret
      exact ⟨rfl, hbW⟩


set_option maxHeartbeats 1000000 in
theorem times_any (a b : Nat) (w : World) (ha : a < 4294967296) (hb : b < 4294967296) :
    Calls Try.prog 26 #[.int .u32 a, .int .u32 b] w fun e w' => e = .returned (.int .u32 (times a b : Nat)) ∧ w = w' := by
  obtain ⟨T, HT⟩ : ∃ T, Hid (T = times a b) := ⟨_, Lib.hid rfl⟩
  rw [← HT.out]
  go_enter Try.func26, Try.ntmps26
  go_wp2_with fail
  go_step3
  go_wp2_with fail
  go_step3
  go_wp2_with fail
  go_loop [1, 5, 6] (fun u v m => ∃ k b' o m' : Nat, k < 32 ∧ b' < 4294967296 ∧ o < 4294967296 ∧ Hid (m' = 2 ^ k) ∧ 1 ≤ m' ∧ m' ≤ 2147483648 ∧ u = .int .u32 b' ∧ v = .int .u32 o ∧ m = .int .u32 m' ∧ Hid (T = tmsk (k + 1) a b' o)) (fun _ _ m => (intOf m).toNat)
  case atStart => exact ⟨31, b, 0, 2147483648, by omega, hb, by omega, Lib.hid rfl, by omega, by omega, rfl, rfl, rfl, Lib.hid HT.out⟩
  case round =>
    obtain ⟨k, b', o, m', hk, hb', ho, HM, hm1, hm2, rfl, rfl, rfl, HTK⟩ := hrel
    obtain ⟨o', Ho', ho2⟩ : ∃ o', Hid (o' = if a.testBit k then o ^^^ b' else o) ∧ o' < 4294967296 := by
      refine ⟨_, Lib.hid rfl, ?_⟩
      split
      · exact Nat.xor_lt_two_pow (n := 32) ho hb'
      · exact ho
    have HT2 : Hid (T = tmsk k a (stp b') o') := Lib.hid (by rw [HTK.out, tmsk, ← Ho'.out])
    have hand : a &&& m' = if a.testBit k then m' else 0 := by
      rw [HM.out, and_two_pow']
    have HS : Hid (stp b' = if b' % 2 = 1 then b' / 2 ^^^ 2197175160 else b' / 2) := Lib.hid rfl
    have hsb : stp b' < 4294967296 := stp_lt hb'
    have ab : bits BinOp.and IntKind.u32 (b' : Int) 1 = ((b' % 2 : Nat) : Int) := by
      rw [show (1 : Int) = ((1 : Nat) : Int) from rfl, u32_and _ _ hb' (by omega), show (1 : Nat) = 2 ^ 1 - 1 from rfl, Nat.and_two_pow_sub_one_eq_mod]
    have ax : bits BinOp.xor IntKind.u32 ((b' : Int) / 2) 2197175160 = ((b' / 2 ^^^ 2197175160 : Nat) : Int) := by
      rw [← u32_xor _ _ (by omega) (by omega)]; rfl
    obtain ⟨y, HY⟩ : ∃ y, Hid (y = b' / 2 ^^^ 2197175160) := ⟨_, Lib.hid rfl⟩
    rw [← HY.out] at ax
    by_cases hbit : a.testBit k
    · have aa : bits BinOp.and IntKind.u32 (a : Int) (m' : Int) = (m' : Int) := by rw [u32_and _ _ ha (by omega), hand, if_pos hbit]
      have ao : bits BinOp.xor IntKind.u32 (o : Int) (b' : Int) = (o' : Int) := by rw [Ho'.out, if_pos hbit, u32_xor _ _ ho hb']
      have hne : ((m' : Int) != 0) = true := by rw [bne_iff_ne]; omega
      clear hand hbit
      by_cases h1 : m' = 1
      · have hb1 : ((m' : Int) == 1) = true := by rw [beq_iff_eq]; omega
        have hk0 : Hid (k = 0) := Lib.hid (by
          have h2 := HM.out
          rw [h1] at h2
          rcases k with _ | k
          · rfl
          · rw [Nat.pow_succ] at h2; omega)
        clear h1
        go_wp2_with fail
        go_ret
        have h3 := HT2.out
        rw [hk0.out] at h3
        exact ⟨by rw [h3]; rfl, rfl⟩
      · have hb1 : ((m' : Int) == 1) = false := by rw [beq_eq_false_iff_ne]; omega
        obtain ⟨k, rfl⟩ : ∃ j, k = j + 1 := by
          rcases k with _ | k
          · exact absurd HM.out h1
          · exact ⟨k, rfl⟩
        have HM2 : Hid (m' / 2 = 2 ^ k) := Lib.hid (by rw [HM.out, Nat.pow_succ]; omega)
        have hm3 : 1 ≤ m' / 2 := by omega
        by_cases hodd : b' % 2 = 1
        · have hb2 : (((b' % 2 : Nat) : Int) == 1) = true := by rw [beq_iff_eq]; omega
          have HS2 : Hid (y = stp b') := Lib.hid (by rw [HS.out, if_pos hodd, HY.out])
          clear hodd h1
          go_wp2_with fail
          go_round
          case measure => simp [intOf]; omega
          case rel => exact ⟨k, y, o', m' / 2, by omega, by rw [HS2.out]; exact hsb, ho2, HM2, hm3, by omega, rfl, rfl, by go_num, Lib.hid (by rw [HT2.out, HS2.out])⟩
        · have hb2 : (((b' % 2 : Nat) : Int) == 1) = false := by rw [beq_eq_false_iff_ne]; omega
          have HS2 : Hid (b' / 2 = stp b') := Lib.hid (by rw [HS.out, if_neg hodd])
          clear hodd h1
          go_wp2_with fail
          go_round
          case measure => simp [intOf]; omega
          case rel => exact ⟨k, b' / 2, o', m' / 2, by omega, by omega, ho2, HM2, hm3, by omega, by go_num, rfl, by go_num, Lib.hid (by rw [HT2.out, HS2.out])⟩
    · have aa : bits BinOp.and IntKind.u32 (a : Int) (m' : Int) = 0 := by rw [u32_and _ _ ha (by omega), hand, if_neg hbit]; rfl
      obtain rfl : o' = o := by rw [Ho'.out, if_neg hbit]
      clear hand hbit
      by_cases h1 : m' = 1
      · have hb1 : ((m' : Int) == 1) = true := by rw [beq_iff_eq]; omega
        have hk0 : Hid (k = 0) := Lib.hid (by
          have h2 := HM.out
          rw [h1] at h2
          rcases k with _ | k
          · rfl
          · rw [Nat.pow_succ] at h2; omega)
        clear h1
        go_wp2_with fail
        go_ret
        have h3 := HT2.out
        rw [hk0.out] at h3
        exact ⟨by rw [h3]; rfl, rfl⟩
      · have hb1 : ((m' : Int) == 1) = false := by rw [beq_eq_false_iff_ne]; omega
        obtain ⟨k, rfl⟩ : ∃ j, k = j + 1 := by
          rcases k with _ | k
          · exact absurd HM.out h1
          · exact ⟨k, rfl⟩
        have HM2 : Hid (m' / 2 = 2 ^ k) := Lib.hid (by rw [HM.out, Nat.pow_succ]; omega)
        have hm3 : 1 ≤ m' / 2 := by omega
        by_cases hodd : b' % 2 = 1
        · have hb2 : (((b' % 2 : Nat) : Int) == 1) = true := by rw [beq_iff_eq]; omega
          have HS2 : Hid (y = stp b') := Lib.hid (by rw [HS.out, if_pos hodd, HY.out])
          clear hodd h1
          go_wp2_with fail
          go_round
          case measure => simp [intOf]; omega
          case rel => exact ⟨k, y, o', m' / 2, by omega, by rw [HS2.out]; exact hsb, ho2, HM2, hm3, by omega, rfl, rfl, by go_num, Lib.hid (by rw [HT2.out, HS2.out])⟩
        · have hb2 : (((b' % 2 : Nat) : Int) == 1) = false := by rw [beq_eq_false_iff_ne]; omega
          have HS2 : Hid (b' / 2 = stp b') := Lib.hid (by rw [HS.out, if_neg hodd])
          clear hodd h1
          go_wp2_with fail
          go_round
          case measure => simp [intOf]; omega
          case rel => exact ⟨k, b' / 2, o', m' / 2, by omega, by omega, ho2, HM2, hm3, by omega, by go_num, rfl, by go_num, Lib.hid (by rw [HT2.out, HS2.out])⟩

set_option maxHeartbeats 1000000 in
theorem power_any (n : Nat) (w : World) (hn : n < 1099511627776) :
    Calls Try.prog 27 #[.int .i64 n] w fun e w' => e = .returned (.int .u32 (stn (8 * n) 2147483648 : Nat)) ∧ w = w' := by
  obtain ⟨T, HT⟩ : ∃ T, Hid (T = stn (8 * n) 2147483648) := ⟨_, Lib.hid rfl⟩
  rw [← HT.out]
  go_enter Try.func27, Try.ntmps27
  go_wp2_with fail
  go_loop [0, 3, 4] (fun m o b => ∃ N u v x y : Nat, N ≤ n ∧ m = .int .i64 N ∧ o = .int .u32 x ∧ b = .int .u32 y ∧ x < 4294967296 ∧ y < 4294967296 ∧ Hid (x = stn u 2147483648) ∧ Hid (y = stn v 2147483648) ∧ Hid (u + v * N = 8 * n)) (fun m _ _ => (intOf m).toNat)
  case atStart => exact ⟨n, 0, 8, 2147483648, 8388608, Nat.le_refl _, rfl, rfl, rfl, by omega, by omega, Lib.hid rfl, Lib.hid rfl, Lib.hid (by omega)⟩
  case round =>
    obtain ⟨N, u, v, x, y, hN, rfl, rfl, rfl, hx, hy, HX, HY, HU⟩ := hrel
    have aa : bits BinOp.and IntKind.i64 (N : Int) 1 = ((N % 2 : Nat) : Int) := by
      rw [show (1 : Int) = ((1 : Nat) : Int) from rfl, i64_and_nat _ _ (by omega) (by omega), show (1 : Nat) = 2 ^ 1 - 1 from rfl, Nat.and_two_pow_sub_one_eq_mod]
    have T1 : Hid (times x y = stn (u + v) 2147483648) := Lib.hid (by rw [HY.out, times_eq v hx, HX.out, ← stn_add])
    have T2 : Hid (times y y = stn (v + v) 2147483648) := Lib.hid (by
      have := times_eq v hy
      rw [← HY.out] at this
      rw [this, HY.out, ← stn_add])
    have b1 : stn (u + v) 2147483648 < 4294967296 := stn_lt _ (by omega)
    have b2 : stn (v + v) 2147483648 < 4294967296 := stn_lt _ (by omega)
    by_cases h0 : N = 0
    · have E : Hid (x = T) := Lib.hid (by
        have h3 := HU.out
        rw [h0, Nat.mul_zero, Nat.add_zero] at h3
        rw [HX.out, HT.out, h3])
      clear T1 T2 aa
      have hN0 : ¬ (0 : Int) < (N : Int) := by omega
      clear h0
      go_wp2_with fail
      go_ret
      exact ⟨ret_uint (by rw [E.out]), rfl⟩
    · have hN0 : (0 : Int) < (N : Int) := by omega
      by_cases hodd : N % 2 = 1
      · have hb2 : (((N % 2 : Nat) : Int) == 1) = true := by rw [beq_iff_eq]; omega
        have HU2 : Hid ((u + v) + (v + v) * (N / 2) = 8 * n) := Lib.hid (by
          have h3 := HU.out
          have h4 : N = 2 * (N / 2) + 1 := by omega
          rw [h4] at h3
          rw [Nat.mul_add, Nat.mul_one] at h3
          rw [Nat.add_mul]
          have h5 : v * (2 * (N / 2)) = v * (N / 2) + v * (N / 2) := by rw [Nat.mul_left_comm, Nat.two_mul]
          omega)
        clear hodd h0
        go_wp2_with fail
        refine (times_any x y _ hx hy).mono ?_
        rw [T1.out]
        rintro e w1 ⟨rfl, rfl⟩
        go_wp2_with fail
        refine (times_any y y _ hy hy).mono ?_
        rw [T2.out]
        rintro e w1 ⟨rfl, rfl⟩
        go_wp2_with fail
        go_round
        case measure => simp [intOf]; omega
        case rel => exact ⟨N / 2, u + v, v + v, _, _, by omega, by go_num, rfl, rfl, b1, b2, Lib.hid rfl, Lib.hid rfl, HU2⟩
      · have hb2 : (((N % 2 : Nat) : Int) == 1) = false := by rw [beq_eq_false_iff_ne]; omega
        have HU2 : Hid (u + (v + v) * (N / 2) = 8 * n) := Lib.hid (by
          have h3 := HU.out
          have h4 : N = 2 * (N / 2) := by omega
          rw [h4] at h3
          rw [Nat.add_mul]
          have h5 : v * (2 * (N / 2)) = v * (N / 2) + v * (N / 2) := by rw [Nat.mul_left_comm, Nat.two_mul]
          omega)
        clear hodd h0
        go_wp2_with fail
        refine (times_any y y _ hy hy).mono ?_
        rw [T2.out]
        rintro e w1 ⟨rfl, rfl⟩
        go_wp2_with fail
        go_round
        case measure => simp [intOf]; omega
        case rel => exact ⟨N / 2, u, v + v, _, _, by omega, by go_num, rfl, rfl, hx, b2, HX, Lib.hid rfl, HU2⟩

/-- two sums come to one -/
def combE (n : Int) : Int := if n < 0 ∨ 1048576 < n then 2 else 0
def combN (a b : Nat) (n : Int) : Nat := if n < 0 ∨ 1048576 < n then 0 else stn (8 * n.toNat) a ^^^ b
theorem combN_lt {a b : Nat} (n : Int) (ha : a < 4294967296) (hb : b < 4294967296) : combN a b n < 4294967296 := by
  unfold combN
  split
  · omega
  · exact Nat.xor_lt_two_pow (n := 32) (stn_lt _ ha) hb

set_option maxHeartbeats 400000 in
theorem combine_any (a b : Nat) (n : Int) (w : World) (ha : a < 4294967296) (hb : b < 4294967296) :
    Calls Try.prog 20 #[.int .u32 a, .int .u32 b, .int .i64 n] w fun e w' => e = .returned (.tuple #[.int .u32 (combN a b n : Nat), .int .i64 (combE n)]) ∧ w = w' := by
  by_cases h1 : n < 0
  · have e1 : combN a b n = 0 := by unfold combN; rw [if_pos (.inl h1)]
    have e2 : combE n = 2 := by unfold combE; rw [if_pos (.inl h1)]
    rw [e1, e2]
    clear e1 e2
    go_enter Try.func20, Try.ntmps20
    go_wp2_with fail
    go_ret2
    exact ⟨rfl, rfl⟩
  by_cases h2 : 1048576 < n
  · have e1 : combN a b n = 0 := by unfold combN; rw [if_pos (.inr h2)]
    have e2 : combE n = 2 := by unfold combE; rw [if_pos (.inr h2)]
    rw [e1, e2]
    clear e1 e2
    go_enter Try.func20, Try.ntmps20
    go_wp2_with fail
    go_ret2
    exact ⟨rfl, rfl⟩
  obtain ⟨N, rfl⟩ := Int.eq_ofNat_of_zero_le (show 0 ≤ n by omega)
  have e1 : combN a b N = stn (8 * N) a ^^^ b := by unfold combN; rw [if_neg (by omega), Int.toNat_natCast]
  have e2 : combE N = 0 := by unfold combE; rw [if_neg (by omega)]
  rw [e2]
  obtain ⟨T, HT⟩ : ∃ T, Hid (T = combN a b N) := ⟨_, Lib.hid rfl⟩
  rw [← HT.out]
  have hs : stn (8 * N) a < 4294967296 := stn_lt _ ha
  have ax : bits BinOp.xor IntKind.u32 ((stn (8 * N) a : Nat) : Int) (b : Int) = (T : Int) := by rw [u32_xor _ _ hs hb, HT.out, e1]
  have T1 : Hid (times a (stn (8 * N) 2147483648) = stn (8 * N) a) := Lib.hid (times_eq _ ha)
  have hp : stn (8 * N) 2147483648 < 4294967296 := stn_lt _ (by omega)
  have hN : N < 1099511627776 := by omega
  have hN2 : ¬ (1048576 : Int) < (N : Int) := by omega
  clear e1 e2 h1 h2
  obtain ⟨p, HP⟩ : ∃ p, Hid (p = stn (8 * N) 2147483648) := ⟨_, Lib.hid rfl⟩
  obtain ⟨q, HQ⟩ : ∃ q, Hid (q = stn (8 * N) a) := ⟨_, Lib.hid rfl⟩
  rw [← HP.out] at hp T1
  rw [← HQ.out] at ax T1
  go_enter Try.func20, Try.ntmps20
  go_wp2_with fail
  refine (power_any N _ hN).mono ?_
  rw [← HP.out]
  rintro e w1 ⟨rfl, rfl⟩
  go_wp2_with fail
  refine (times_any a p _ ha hp).mono ?_
  rw [T1.out]
  rintro e w1 ⟨rfl, rfl⟩
  go_wp2_with fail
  go_ret2
  exact ⟨rfl, rfl⟩

set_option maxHeartbeats 400000 in
theorem rcombine_any (a b : Nat) (n : Int) (w : World) (ha : a < 4294967296) (hb : b < 4294967296) :
    Calls Try.prog 21 #[.int .u32 a, .int .u32 b, .int .i64 n] w fun e w' => e = .returned (.tuple #[.int .u32 (combN a b n : Nat), .int .i64 (combE n)]) ∧ w = w' := by
  by_cases h1 : n < 0
  · have e1 : combN a b n = 0 := by unfold combN; rw [if_pos (.inl h1)]
    have e2 : combE n = 2 := by unfold combE; rw [if_pos (.inl h1)]
    rw [e1, e2]
    clear e1 e2
    go_enter Try.func21, Try.ntmps21
    go_wp2_with fail
    go_ret2
    exact ⟨rfl, rfl⟩
  by_cases h2 : 1048576 < n
  · have e1 : combN a b n = 0 := by unfold combN; rw [if_pos (.inr h2)]
    have e2 : combE n = 2 := by unfold combE; rw [if_pos (.inr h2)]
    rw [e1, e2]
    clear e1 e2
    go_enter Try.func21, Try.ntmps21
    go_wp2_with fail
    go_ret2
    exact ⟨rfl, rfl⟩
  obtain ⟨N, rfl⟩ := Int.eq_ofNat_of_zero_le (show 0 ≤ n by omega)
  have e1 : combN a b N = stn (8 * N) a ^^^ b := by unfold combN; rw [if_neg (by omega), Int.toNat_natCast]
  have e2 : combE N = 0 := by unfold combE; rw [if_neg (by omega)]
  rw [e2]
  obtain ⟨T, HT⟩ : ∃ T, Hid (T = combN a b N) := ⟨_, Lib.hid rfl⟩
  rw [← HT.out]
  have E1 : Hid (T = stn (8 * N) a ^^^ b) := Lib.hid (by rw [HT.out, e1])
  have hN : N ≤ 1048576 := by omega
  clear e1 e2 h1 h2
  go_enter Try.func21, Try.ntmps21
  go_wp2_with fail
  go_loop [0, 8] (fun u i => ∃ k x : Nat, k ≤ 8 * N ∧ i = .int .i64 k ∧ u = .int .u32 x ∧ x < 4294967296 ∧ Hid (x = stn k a)) (fun _ i => 8 * N - (intOf i).toNat)
  case atStart => exact ⟨0, a, Nat.zero_le _, rfl, rfl, ha, Lib.hid rfl⟩
  case round =>
    obtain ⟨k, x, hk, rfl, rfl, hx, HX⟩ := hrel
    by_cases hlt : k < 8 * N
    · have hs := stp_lt hx
      have HS : Hid (stp (x ^^^ 0) = stp x) := Lib.hid (by rw [Nat.xor_zero])
      go_wp2_with fail
      refine (in_any x 0 _ hx (by omega)).mono ?_
      rw [HS.out]
      rintro e w1 ⟨rfl, rfl⟩
      go_wp2_with fail
      go_round
      case measure => simp [intOf]; omega
      case rel => exact ⟨k + 1, stp x, by omega, by go_num, rfl, hs, Lib.hid (by rw [stn_succ, HX.out])⟩
    · obtain rfl : k = 8 * N := by omega
      have ax : bits BinOp.xor IntKind.u32 (x : Int) (b : Int) = (T : Int) := by rw [u32_xor _ _ hx hb, E1.out, HX.out]
      go_wp2_with fail
      go_ret2
      exact ⟨rfl, rfl⟩
end Go.Proofs.Ytolkdmelmpfmoaa
