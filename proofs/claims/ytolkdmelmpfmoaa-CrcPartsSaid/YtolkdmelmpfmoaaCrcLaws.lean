/-
  THE WALKS OF THE LAWS ON SUMS.
-/
import Derived.Test.YtolkdmelmpfmoaaCrcC
namespace Go.Proofs.Ytolkdmelmpfmoaa
open Go.RowKit
set_option linter.unusedVariables false

theorem rd_litn (w : World) (l : List UInt8) (C : Array Value) (g : Nat) (hg : g = w.heap.size) (hC : C = (bvs l).toArray) : Rd (w.alloc (.cells C 5)) (some ⟨g, 0, none⟩) l := by
  subst hg
  exact rd_lit w l C hC
theorem al {a : World} (o : Obj) : Below a.heap.size a (a.alloc o) := (Below.refl _ _).alloc (Nat.le_refl _) _

theorem combine_i (a b : Nat) (ai bi : Int) (n : Int) (w : World) (ha : a < 4294967296) (hb : b < 4294967296) (h1 : ai = (a : Int)) (h2 : bi = (b : Int)) :
    Calls Try.prog 20 #[.int .u32 ai, .int .u32 bi, .int .i64 n] w fun e w' => e = .returned (.tuple #[.int .u32 (combN a b n : Nat), .int .i64 (combE n)]) ∧ w = w' := by
  subst h1 h2
  exact combine_any a b n w ha hb

set_option maxHeartbeats 1000000 in
theorem awake_any (w : World) : Calls Try.prog 22 #[] w (RetV w (.bool true)) := by
  have m9 : 9 ≤ maxLen := by unfold maxLen; omega
  have m32 : 32 ≤ maxLen := by unfold maxLen; omega
  have kc := fun (w : World) (C : Array Value) (n c : Nat) => Lib.run_convert_bytes_const (P := Try.prog) w 22 5 C n c Try.underlying22 Try.underlying5
  go_enter Try.func22, Try.ntmps22
  go_wp2_with fail
  refine (sum_any _ _ [49, 50, 51, 52] _ _ (rd_litf _ _ _ _ (by simp [bvs])) (by simp; omega) rfl).mono ?_
  rw [show sum [49, 50, 51, 52] = 4131058926 by decide +kernel]
  rintro e w1 ⟨rfl, hb1⟩
  have b1 := bt (al _) hb1
  clear hb1
  go_wp2_with fail
  refine (sum_any _ _ [53, 54, 55, 56, 57] _ _ (rd_litf _ _ _ _ (by simp [bvs])) (by simp; omega) rfl).mono ?_
  rw [show sum [53, 54, 55, 56, 57] = 2209703384 by decide +kernel]
  rintro e w2 ⟨rfl, hb2⟩
  have b2 := bt (al _) hb2
  clear hb2
  go_wp2_with fail
  refine (combine_i 4131058926 2209703384 _ _ 5 _ (by omega) (by omega) (by omega) (by omega)).mono ?_
  rw [show combN 4131058926 2209703384 5 = 3808858755 by decide +kernel, show combE 5 = 0 by decide]
  rintro e w3 ⟨rfl, rfl⟩
  go_wp2_with fail
  refine (combine_i 0 0 _ _ (-1) _ (by omega) (by omega) (by omega) (by omega)).mono ?_
  rw [show combN 0 0 (-1) = 0 by decide, show combE (-1) = 2 by decide]
  rintro e w3 ⟨rfl, rfl⟩
  go_wp2_with fail
  refine (sum_any _ _ [] _ _ (Rd.nil _ _) (Nat.zero_le _) rfl).mono ?_
  rw [show sum [] = 0 by decide]
  rintro e w3 ⟨rfl, b3⟩
  go_wp2_with fail
  refine (sum_any _ _ [49, 50, 51, 52, 53, 54, 55, 56, 57] _ _ (rd_litf _ _ _ _ (by simp [bvs])) m9 rfl).mono ?_
  rw [show sum [49, 50, 51, 52, 53, 54, 55, 56, 57] = 3808858755 by decide +kernel]
  rintro e w4 ⟨rfl, hb4⟩
  have b4 := bt (al _) hb4
  clear hb4
  go_wp2_with fail
  refine (row_any 32 0 _ (by omega) (by omega)).mono ?_
  rintro e w5 ⟨A5, c5, rfl, hown5, b5⟩
  go_wp2_with fail
  refine (sum_any _ _ _ _ _ hown5.rd (by simp; exact m32) rfl).mono ?_
  rw [show sum (List.replicate 32 (UInt8.ofNat 0)) = 2324772522 by decide +kernel]
  rintro e w6 ⟨rfl, b6⟩
  clear hown5
  go_wp2_with fail
  refine (row_any 32 255 _ (by omega) (by omega)).mono ?_
  rintro e w7 ⟨A7, c7, rfl, hown7, b7⟩
  go_wp2_with fail
  refine (sum_any _ _ _ _ _ hown7.rd (by simp; exact m32) rfl).mono ?_
  rw [show sum (List.replicate 32 (UInt8.ofNat 255)) = 1655221059 by decide +kernel]
  rintro e w8 ⟨rfl, b8⟩
  clear hown7
  go_wp2_with fail
  refine (turned_any _ _ 2 2 [1, 2] [3, 2] _ ((rd_lit w8 [1, 2] #[.int .u8 1, .int .u8 2] (by simp [bvs])).alloc _) (rd_litn _ [3, 2] #[.int .u8 3, .int .u8 2] _ (by simp) (by simp [bvs])) (by simp) (by simp)).mono ?_
  rw [show turned [1, 2] [3, 2] = 1 by decide +kernel]
  rintro e w9 ⟨rfl, rfl⟩
  go_wp2_with fail
  refine (turned_any _ _ 1 2 [1] [1, 2] _ ((rd_litn _ [1] #[.int .u8 1] _ (by simp) (by simp [bvs])).alloc _) (rd_litn _ [1, 2] #[.int .u8 1, .int .u8 2] _ (by simp) (by simp [bvs])) (by simp) (by simp)).mono ?_
  rw [show turned [1] [1, 2] = -1 by decide +kernel]
  rintro e w9 ⟨rfl, rfl⟩
  go_wp2_with fail
  go_ret
  refine ⟨rfl, ?_⟩
  exact bt (bt (bt (bt (bt (bt (bt (bt (bt (bt (bt (bt b1 b2) b3) b4) b5) b6) b7) b8) (al _)) (al _)) (al _)) (al _)) (Below.refl _ _)

set_option maxHeartbeats 400000 in
theorem crcTurned_walk (A : Option Addr) (c : Nat) (a : List UInt8) (B : Option Addr) (d : Nat) (b : List UInt8) (w : World) (hr : Rd w A a) (hc : a.length ≤ c) (hm : c ≤ maxLen) (hr2 : Rd w B b) (hc2 : b.length ≤ d) (hm2 : d ≤ maxLen) :
    Calls Try.prog 3 #[.slice A a.length c, .slice B b.length d] w (RetV w (.bool true)) := by
  by_cases h1 : 2000 < a.length
  · go_enter Try.func3, Try.ntmps3
    go_wp2_with fail
    go_ret
    exact ⟨rfl, Below.refl _ _⟩
  by_cases h2 : 2000 < b.length
  · go_enter Try.func3, Try.ntmps3
    go_wp2_with fail
    go_ret
    exact ⟨rfl, Below.refl _ _⟩
  go_enter Try.func3, Try.ntmps3
  go_wp2_with fail
  refine (turned_any _ _ _ _ _ _ _ hr hr2 (by omega) (by omega)).mono ?_
  rintro e w1 ⟨rfl, rfl⟩
  go_wp2_with fail
  refine (rturned_any _ _ _ _ _ _ _ hr hr2 (by omega) (by omega)).mono ?_
  rintro e w2 ⟨rfl, hb⟩
  go_wp2_with fail
  go_ret
  exact ⟨rfl, hb⟩

set_option maxHeartbeats 400000 in
theorem crcSums_walk (A : Option Addr) (c : Nat) (l : List UInt8) (s : Nat) (w : World) (hr : Rd w A l) (hc : l.length ≤ c) (hm : c ≤ maxLen) (hs : s < 2 ^ 32) :
    Calls Try.prog 4 #[.slice A l.length c, .int .u32 s] w (RetV w (.bool true)) := by
  have mm := le_maxLen
  by_cases h1 : 2000 < l.length
  · go_enter Try.func4, Try.ntmps4
    go_wp2_with fail
    go_ret
    exact ⟨rfl, Below.refl _ _⟩
  have hs' : s < 4294967296 := hs
  clear hs
  go_enter Try.func4, Try.ntmps4
  go_wp2_with fail
  refine (copy_any _ _ _ _ hr (by omega)).mono ?_
  rintro e w1 ⟨A1, c1, rfl, hown1, hb1⟩
  go_wp2_with fail
  refine (sum_any _ _ l _ _ hown1.rd (by omega) rfl).mono ?_
  rintro e w2 ⟨rfl, hb2⟩
  go_wp2_with fail
  refine (rsum_any _ _ l _ _ (hr.below (bt hb1 hb2)) (by omega) rfl).mono ?_
  rintro e w3 ⟨rfl, rfl⟩
  go_wp2_with fail
  refine (extend_any s _ _ l _ _ hs' (hown1.rd.below hb2) (by omega) rfl).mono ?_
  rintro e w3 ⟨rfl, hb3⟩
  go_wp2_with fail
  refine (rextend_any s _ _ l _ _ hs' (hr.below (bt (bt hb1 hb2) hb3)) (by omega) rfl).mono ?_
  rintro e w4 ⟨rfl, rfl⟩
  go_wp2_with fail
  refine (same_any _ _ _ _ _ _ _ (hown1.rd.below (bt hb2 hb3)) (hr.below (bt (bt hb1 hb2) hb3)) (by omega) (by omega)).mono ?_
  rw [eqB_self]
  rintro e w5 ⟨rfl, hb5⟩
  go_wp2_with fail
  go_ret
  exact ⟨rfl, bt (bt (bt hb1 hb2) hb3) hb5⟩

set_option maxHeartbeats 400000 in
theorem crcCombines_walk (a b : Nat) (n : Int) (w : World) (ha : a < 2 ^ 32) (hb : b < 2 ^ 32) (h0 : -9223372036854775808 ≤ n) (h1 : n ≤ 9223372036854775807) :
    Calls Try.prog 5 #[.int .u32 a, .int .u32 b, .int .i64 n] w (RetV w (.bool true)) := by
  have ha' : a < 4294967296 := ha
  have hb' : b < 4294967296 := hb
  clear ha hb
  by_cases h2 : 5000 < n ∧ n ≤ 1048576
  · obtain ⟨h3, h4⟩ := h2
    go_enter Try.func5, Try.ntmps5
    go_wp2_with fail
    go_ret
    exact ⟨rfl, Below.refl _ _⟩
  have h3 : n ≤ 5000 ∨ 1048576 < n := by omega
  clear h2
  rcases h3 with h3 | h3
  all_goals
    go_enter Try.func5, Try.ntmps5
    go_wp2_with fail
    refine (combine_any a b n _ ha' hb').mono ?_
    rintro e w1 ⟨rfl, rfl⟩
    go_wp2_with fail
    refine (rcombine_any a b n _ ha' hb').mono ?_
    rintro e w1 ⟨rfl, rfl⟩
    go_wp2_with fail
    go_ret
    exact ⟨rfl, Below.refl _ _⟩

set_option maxHeartbeats 400000 in
theorem crcOdd_walk (A : Option Addr) (c : Nat) (a : List UInt8) (B : Option Addr) (d : Nat) (b : List UInt8) (w : World) (hr : Rd w A a) (hc : a.length ≤ c) (hm : c ≤ maxLen) (hr2 : Rd w B b) (hc2 : b.length ≤ d) (hm2 : d ≤ maxLen) :
    Calls Try.prog 10 #[.slice A a.length c, .slice B b.length d] w (RetV w (.bool true)) := by
  have mm := le_maxLen
  by_cases h1 : 1500 < a.length
  · go_enter Try.func10, Try.ntmps10
    go_wp2_with fail
    refine (awake_any _).mono ?_
    rintro e w1 ⟨rfl, hb1⟩
    go_wp2_with fail
    go_ret
    exact ⟨rfl, hb1⟩
  by_cases h2 : a.length = b.length
  · have h5 : b.length ≤ 1500 := by omega
    have HE := Lib.hid h2
    rw [h2]
    clear h1
    have hR := fun (w1 : World) (hb1 : Below w.heap.size w w1) => turned_any A B c d a b w1 (hr.below hb1) (hr2.below hb1) (by omega) (by omega)
    simp only [h2] at hR
    have HR := Lib.hid hR
    clear hR h2
    by_cases hp : turned a b % 2 = 0
    · obtain ⟨t, Ht⟩ : ∃ t : Nat, Hid (turned a b = t) := ⟨popL (rowX a b), Lib.hid (by unfold turned; rw [if_pos HE.out])⟩
      have hp2 : (((t : Int) % 2) == 0) = true := by rw [beq_iff_eq, ← Ht.out]; exact hp
      clear hp
      go_enter Try.func10, Try.ntmps10
      go_wp2_with fail
      refine (awake_any _).mono ?_
      rintro e w1 ⟨rfl, hb1⟩
      go_wp2_with fail
      refine (HR.out w1 hb1).mono ?_
      rw [Ht.out]
      rintro e w2 ⟨rfl, rfl⟩
      go_wp2_with fail
      go_ret
      exact ⟨rfl, hb1⟩
    · obtain ⟨t, Ht⟩ : ∃ t : Nat, Hid (turned a b = t) := ⟨popL (rowX a b), Lib.hid (by unfold turned; rw [if_pos HE.out])⟩
      have hp2 : (((t : Int) % 2) == 0) = false := by rw [beq_eq_false_iff_ne, ← Ht.out]; exact hp
      have hne : (((sum a : Nat) : Int) != ((sum b : Nat) : Int)) = true := by
        rw [bne_iff_ne]
        intro e
        exact hp (sum_odd HE.out (by omega))
      clear hp
      go_enter Try.func10, Try.ntmps10
      go_wp2_with fail
      refine (awake_any _).mono ?_
      rintro e w1 ⟨rfl, hb1⟩
      go_wp2_with fail
      refine (HR.out w1 hb1).mono ?_
      rw [Ht.out]
      rintro e w2 ⟨rfl, rfl⟩
      go_wp2_with fail
      refine (sum_any _ _ a _ _ (hr.below hb1) (by have := HE.out; omega) HE.out.symm).mono ?_
      rintro e w2 ⟨rfl, hb2⟩
      go_wp2_with fail
      refine (sum_any _ _ b _ _ (hr2.below (bt hb1 hb2)) (by omega) rfl).mono ?_
      rintro e w3 ⟨rfl, hb3⟩
      go_wp2_with fail
      go_ret
      exact ⟨rfl, bt (bt hb1 hb2) hb3⟩
  · have hne : ((a.length : Int) != (b.length : Int)) = true := by rw [bne_iff_ne]; omega
    clear h2
    go_enter Try.func10, Try.ntmps10
    go_wp2_with fail
    refine (awake_any _).mono ?_
    rintro e w1 ⟨rfl, hb1⟩
    go_wp2_with fail
    go_ret
    exact ⟨rfl, hb1⟩
end Go.Proofs.Ytolkdmelmpfmoaa
