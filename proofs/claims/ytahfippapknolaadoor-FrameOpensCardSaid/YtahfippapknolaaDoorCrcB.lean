/-
  THE WALKS OF CRC: Extend, Sum, times, power, Combine, Turned; the reference's.
-/
import Derived.Test.YtahfippapknolaaDoorCrc
namespace Go.Proofs.YtahfippapknolaaDoor
open Go.RowKit
set_option linter.unusedVariables false

theorem stn4_split (x : Nat) : stn 4 x = (x / 16) ^^^ stn 4 (x % 16) := by
  have h : x = (x / 16 * 16) ^^^ (x % 16) := by
    have h2 := Nat.two_pow_add_eq_or_of_lt (i := 4) (b := x % 16) (by omega) (x / 16)
    have h3 : x / 16 * 16 ^^^ x % 16 = x / 16 * 16 ||| x % 16 := by
      apply Nat.eq_of_testBit_eq
      intro i
      rw [Nat.testBit_xor, Nat.testBit_or]
      by_cases hi : i < 4
      · have : (x / 16 * 16).testBit i = false := by
          rw [show x / 16 * 16 = 2 ^ 4 * (x / 16) by omega, Nat.testBit_two_pow_mul]
          simp; omega
        rw [this]; simp
      · have : (x % 16).testBit i = false := Nat.testBit_lt_two_pow (Nat.lt_of_lt_of_le (Nat.mod_lt _ (by omega)) (show 2 ^ 4 ≤ 2 ^ i from Nat.pow_le_pow_right (by omega) (by omega)))
        rw [this]; simp
    rw [h3, Nat.mul_comm, show 16 = 2 ^ 4 from rfl, ← h2, show (2 : Nat) ^ 4 = 16 from rfl]
    omega
  conv => lhs; rw [h, stn_xor]
  congr 1
  have h4 : ∀ y : Nat, stn 4 (y * 16) = y := by
    intro y
    have st : ∀ z : Nat, stp (z * 2) = z := fun z => by unfold stp; rw [if_neg (by omega)]; omega
    rw [show y * 16 = y * 2 * 2 * 2 * 2 by omega]
    simp only [stn, st]
  exact h4 _

theorem and_two_pow' (a k : Nat) : a &&& 2 ^ k = if a.testBit k then 2 ^ k else 0 := by
  apply Nat.eq_of_testBit_eq
  intro i
  rw [Nat.testBit_and, Nat.testBit_two_pow]
  by_cases hi : k = i
  · subst hi
    cases h : a.testBit k <;> simp
  · have h1 : decide (k = i) = false := by simp [hi]
    rw [h1, Bool.and_false]
    split
    · rw [Nat.testBit_two_pow, h1]
    · rw [Nat.zero_testBit]

theorem tab_at (j : Nat) (hj : j < 16) : tab[j]? = some (.int .u32 (stn 4 j : Nat)) := by simp [tab, hj]

set_option maxHeartbeats 1000000 in
theorem extend_any (s : Nat) (A : Option Addr) (c : Nat) (l : List UInt8) (n : Nat) (w : World) (hs : s < 4294967296) (hr : Rd w A l) (hm : l.length ≤ maxLen) (hn : n = l.length) :
    Calls Tryd.prog 38 #[.int .u32 s, .slice A n c] w (RetV w (.int .u32 (ext s l : Nat))) := by
  subst hn
  unfold maxLen at hm
  obtain ⟨x0, H0⟩ : ∃ x0, Hid (x0 = 4294967295 ^^^ s) := ⟨_, Lib.hid rfl⟩
  have hx0 : x0 < 4294967296 := by rw [H0.out]; exact Nat.xor_lt_two_pow (n := 32) (by omega) hs
  have e0 : bits BinOp.xor IntKind.u32 IntKind.u32.max (s : Int) = (x0 : Int) := by
    rw [H0.out, ← u32_xor _ _ (by omega) hs]; rfl
  go_enter Tryd.func38, Tryd.ntmps38
  go_wp2_with fail
  refine (halves_any _).mono ?_
  rw [tab_eq]
  rintro e w1 ⟨rfl, hb1⟩
  go_wp2_with fail
  rw [← tab_eq']
  have hcells : ∀ j, j < 16 → (w1.alloc (.cells tab.toArray 84)).cell? ⟨w1.heap.size, j, none⟩ = some (.int .u32 (stn 4 j : Nat)) := by
    intro j hj
    rw [cell_of_row _ _ _ _ _ _ (heap_alloc_new w1 _), List.getElem?_toArray]
    exact tab_at j hj
  have hbW : Below w.heap.size w (w1.alloc (.cells tab.toArray 84)) := hb1.alloc hb1.size _
  generalize w1.alloc (.cells tab.toArray 84) = W at hcells hbW ⊢
  have hrW := hr.below hbW
  obtain ⟨g, Hg⟩ : ∃ g, Hid (g = w1.heap.size) := ⟨_, Lib.hid rfl⟩
  rw [← Hg.out] at hcells ⊢
  generalize Value.agg tab.toArray = tv
  clear e0
  go_loop [6, 14] (fun r i => ∃ k x : Nat, k ≤ l.length ∧ i = .int .i64 k ∧ r = .int .u32 x ∧ x < 4294967296 ∧ Hid (x = reg x0 (l.take k))) (fun _ i => l.length - (intOf i).toNat)
  case atStart => exact ⟨0, x0, Nat.zero_le _, rfl, rfl, hx0, Lib.hid rfl⟩
  case round =>
    obtain ⟨k, x, hk, rfl, rfl, hx, HX⟩ := hrel
    by_cases hlt : k < l.length
    · obtain ⟨b, o, rfl, hcl⟩ := hrW.at_ hlt
      have hcell := hcl k hlt
      obtain ⟨y, HY⟩ : ∃ y, Hid (y = l[k].toNat) := ⟨_, Lib.hid rfl⟩
      have hy : y < 256 := by rw [HY.out]; exact l[k].toNat_lt
      rw [← HY.out] at hcell
      clear hcl
      obtain ⟨x1, H1⟩ : ∃ x1, Hid (x1 = x ^^^ y) := ⟨_, Lib.hid rfl⟩
      have hx1 : x1 < 4294967296 := by rw [H1.out]; exact Nat.xor_lt_two_pow (n := 32) hx (by omega)
      have e1 : bits BinOp.xor IntKind.u32 (x : Int) (y : Int) = (x1 : Int) := by rw [H1.out, ← u32_xor _ _ hx (by omega)]
      have a1 : bits BinOp.and IntKind.u32 (x1 : Int) 15 = ((x1 % 16 : Nat) : Int) := by
        rw [show (15 : Int) = ((15 : Nat) : Int) from rfl, u32_and _ _ hx1 (by omega), show (15 : Nat) = 2 ^ 4 - 1 from rfl, Nat.and_two_pow_sub_one_eq_mod]
      have t1 := hcells (x1 % 16) (by omega)
      obtain ⟨v1, V1⟩ : ∃ v, Hid (v = stn 4 (x1 % 16)) := ⟨_, Lib.hid rfl⟩
      have hv1 : v1 < 4294967296 := by rw [V1.out]; exact stn_lt 4 (by omega)
      rw [← V1.out] at t1
      obtain ⟨x2, H2⟩ : ∃ x2, Hid (x2 = x1 / 16 ^^^ v1) := ⟨_, Lib.hid rfl⟩
      have hx2 : x2 < 4294967296 := by rw [H2.out]; exact Nat.xor_lt_two_pow (n := 32) (by omega) hv1
      have e2 : bits BinOp.xor IntKind.u32 ((x1 : Int) / 16) (v1 : Int) = (x2 : Int) := by rw [H2.out, ← u32_xor _ _ (by omega) hv1]; rfl
      have a2 : bits BinOp.and IntKind.u32 (x2 : Int) 15 = ((x2 % 16 : Nat) : Int) := by
        rw [show (15 : Int) = ((15 : Nat) : Int) from rfl, u32_and _ _ hx2 (by omega), show (15 : Nat) = 2 ^ 4 - 1 from rfl, Nat.and_two_pow_sub_one_eq_mod]
      have t2 := hcells (x2 % 16) (by omega)
      obtain ⟨v2, V2⟩ : ∃ v, Hid (v = stn 4 (x2 % 16)) := ⟨_, Lib.hid rfl⟩
      have hv2 : v2 < 4294967296 := by rw [V2.out]; exact stn_lt 4 (by omega)
      rw [← V2.out] at t2
      obtain ⟨x3, H3⟩ : ∃ x3, Hid (x3 = x2 / 16 ^^^ v2) := ⟨_, Lib.hid rfl⟩
      have hx3 : x3 < 4294967296 := by rw [H3.out]; exact Nat.xor_lt_two_pow (n := 32) (by omega) hv2
      have e3 : bits BinOp.xor IntKind.u32 ((x2 : Int) / 16) (v2 : Int) = (x3 : Int) := by rw [H3.out, ← u32_xor _ _ (by omega) hv2]; rfl
      clear hcells
      go_wp2_with fail
      go_round
      case measure => simp [intOf]; omega
      case rel =>
        refine ⟨k + 1, x3, by omega, by go_num, rfl, hx3, Lib.hid ?_⟩
        rw [List.take_succ_eq_append_getElem hlt, reg_append, ← HX.out]
        show x3 = crcB x l[k]
        unfold crcB
        rw [← HY.out, ← H1.out, show (8 : Nat) = 4 + 4 from rfl, stn_add, stn4_split x1, ← V1.out, ← H2.out, stn4_split x2, ← V2.out, ← H3.out]
    · obtain rfl : k = l.length := by omega
      have ef : bits BinOp.xor IntKind.u32 IntKind.u32.max (x : Int) = ((ext s l : Nat) : Int) := by
        have h2 := HX.out
        rw [List.take_length] at h2
        rw [ext, ← H0.out, ← h2, ← u32_xor _ _ (by omega) hx]; rfl
      clear hcells
      go_wp2_with fail
      go_ret
      exact ⟨rfl, hbW⟩


/-- two sums come to one -/
def combE (n : Int) : Int := if n < 0 ∨ 1048576 < n then 2 else 0
def combN (a b : Nat) (n : Int) : Nat := if n < 0 ∨ 1048576 < n then 0 else stn (8 * n.toNat) a ^^^ b
theorem combN_lt {a b : Nat} (n : Int) (ha : a < 4294967296) (hb : b < 4294967296) : combN a b n < 4294967296 := by
  unfold combN
  split
  · omega
  · exact Nat.xor_lt_two_pow (n := 32) (stn_lt _ ha) hb

end Go.Proofs.YtahfippapknolaaDoor
