/-
  THE WALKS OF THE LAWS ON OCTETS (those that stand by themselves): each returns true, and writes nothing that was there.
-/
import Derived.Test.YtgdgggklagmpoaaOct
import Derived.Test.YtgdgggklagmpoaaRef01
namespace Go.Proofs.Ytgdgggklagmpoaa
open Go.RowKit
set_option linter.unusedVariables false

theorem eqB_self' (l : List UInt8) : eqB l l = true := by simp [eqB]

set_option maxHeartbeats 1000000 in
theorem awake_any (w : World) : Calls Try.prog 23 #[] w (RetV w (.bool true)) := by
  have m3 : 3 ≤ maxLen := by unfold maxLen; omega
  have m4 : 4 ≤ maxLen := by unfold maxLen; omega
  have m2 : 2 ≤ maxLen := by unfold maxLen; omega
  go_enter Try.func23, Try.ntmps23
  go_wp2_with fail
  refine (put_any 2 258 _).mono ?_
  rw [show putL 2 258 = [2, 1] from rfl, show putE 2 258 = 0 from rfl]
  rintro e w1 ⟨A1, c1, rfl, hown1, hb1⟩
  go_wp2_with fail
  refine (put_any 1 258 _).mono ?_
  rw [show putL 1 258 = [] from rfl, show putE 1 258 = 2 from rfl]
  rintro e w2 ⟨A2, c2, rfl, hown2, hb2⟩
  go_wp2_with fail
  refine (put_any 3 258 _).mono ?_
  rw [show putL 3 258 = [] from rfl, show putE 3 258 = 2 from rfl]
  rintro e w3 ⟨A3, c3, rfl, hown3, hb3⟩
  go_wp2_with fail
  refine (get_any _ 3 [9, 2, 1] 1 2 _ (rd_lit _ _ _ (by simp [bvs])) (Nat.le_refl _) m3).mono ?_
  rw [show getN [9, 2, 1] 1 2 = 258 from rfl, show getP [9, 2, 1] 1 2 = 3 from rfl, show getE [9, 2, 1] 1 2 = 0 from rfl]
  rintro e w4 ⟨rfl, hb4⟩
  go_wp2_with fail
  refine (get_any _ 3 [9, 2, 1] 2 2 _ (rd_lit _ _ _ (by simp [bvs])) (Nat.le_refl _) m3).mono ?_
  rw [show getN [9, 2, 1] 2 2 = 0 from rfl, show getP [9, 2, 1] 2 2 = 0 from rfl, show getE [9, 2, 1] 2 2 = 10 from rfl]
  rintro e w5 ⟨rfl, hb5⟩
  go_wp2_with fail
  refine (get_any _ 3 [9, 2, 1] 4 1 _ (rd_lit _ _ _ (by simp [bvs])) (Nat.le_refl _) m3).mono ?_
  rw [show getN [9, 2, 1] 4 1 = 0 from rfl, show getP [9, 2, 1] 4 1 = 0 from rfl, show getE [9, 2, 1] 4 1 = 2 from rfl]
  rintro e w6 ⟨rfl, hb6⟩
  go_wp2_with fail
  refine (text_any ⟨#[97, 98]⟩ _ m2).mono ?_
  rw [show textL [97, 98] = [2, 97, 98] from rfl, show textE [97, 98] = 0 from rfl]
  rintro e w7 ⟨A7, c7, rfl, hown7, hb7⟩
  go_wp2_with fail
  refine (read_any _ 4 [2, 97, 98, 7] 0 _ (rd_lit _ _ _ (by simp [bvs])) (Nat.le_refl _) m4).mono ?_
  rw [show readS [2, 97, 98, 7] 0 = [97, 98] from rfl, show readP [2, 97, 98, 7] 0 = 3 from rfl, show readE [2, 97, 98, 7] 0 = 0 from rfl]
  rintro e w8 ⟨rfl, hb8⟩
  go_wp2_with fail
  refine (read_any _ 2 [2, 97] 0 _ (rd_lit _ _ _ (by simp [bvs])) (Nat.le_refl _) m2).mono ?_
  rw [show readS [2, 97] 0 = [] from rfl, show readP [2, 97] 0 = 0 from rfl, show readE [2, 97] 0 = 10 from rfl]
  rintro e w9 ⟨rfl, hb9⟩
  go_wp2_with fail
  have al : ∀ (a : World) (o : Obj), Below a.heap.size a (a.alloc o) := fun a o => (Below.refl _ _).alloc (Nat.le_refl _) _
  have c4 := bt (al w3 _) hb4
  have c5 := bt (al w4 _) hb5
  have c6 := bt (al w5 _) hb6
  have c8 := bt (al w7 _) hb8
  have c9 := bt (al w8 _) hb9
  have d1 : Below w1.heap.size w1 w9 := bt (bt (bt (bt (bt (bt (bt hb2 hb3) c4) c5) c6) hb7) c8) c9
  have d7 : Below w7.heap.size w7 w9 := bt c8 c9
  have r1 := (hown1.rd.below d1).alloc (.cells #[.int .u8 2, .int .u8 1] 5)
  refine (same_any _ _ _ 2 [2, 1] [2, 1] _ r1 (rd_lit _ _ _ (by simp [bvs])) m2 m2).mono ?_
  rw [eqB_self']
  rintro e w10 ⟨rfl, hb10⟩
  have c10 := bt (al w9 _) hb10
  go_wp2_with fail
  have r7 := ((hown7.rd.below d7).below c10).alloc (.cells #[.int .u8 2, .int .u8 97, .int .u8 98] 5)
  refine (same_any _ _ _ 3 [2, 97, 98] [2, 97, 98] _ r7 (rd_lit _ _ _ (by simp [bvs])) m3 m3).mono ?_
  rw [eqB_self']
  rintro e w11 ⟨rfl, hb11⟩
  have c11 := bt (al w10 _) hb11
  go_wp2_with fail
  go_ret
  exact ⟨rfl, bt (bt (bt hb1 d1) c10) c11⟩

set_option maxHeartbeats 400000 in
theorem octetLowest_walk (n : Int) (w : World) (w1l : -9223372036854775808 ≤ n) (w1h : n ≤ 9223372036854775807) :
    Calls Try.prog 9 #[.int .i64 n] w (RetV w (.bool true)) := by
  by_cases h : n < 0 ∨ 281474976710656 ≤ n
  · have hf : fitsB 6 n = false := by
      rw [fitsB_eq]
      simp
      omega
    rcases h with h | h
    all_goals
      go_enter Try.func9, Try.ntmps9
      go_wp2_with fail
      refine (awake_any _).mono ?_
      rintro e w1 ⟨rfl, hb1⟩
      go_wp2_with fail
      refine (put_any 6 n _).mono ?_
      rw [show putE 6 n = 2 by simp [putE, hf]]
      rintro e w2 ⟨A2, c2, rfl, hown2, hb2⟩
      go_wp2_with fail
      go_ret
      exact ⟨rfl, bt hb1 hb2⟩
  · obtain ⟨N, rfl⟩ := Int.eq_ofNat_of_zero_le (show 0 ≤ n by omega)
    have hN : N < 281474976710656 := by omega
    clear h w1l w1h
    have hw : ∀ (W : Nat), isWidth W = true → ∀ M : Nat, M < 256 ^ W → putL W M = leB W M ∧ putE W M = 0 := by
      intro W hW M hM
      have : fitsB W M = true := by rw [fitsB_nat hW, Nat.div_eq_of_lt hM]; rfl
      simp [putL, putE, this]
    obtain ⟨e1, e2⟩ := hw 6 rfl N (by omega)
    obtain ⟨e3, e4⟩ := hw 4 rfl (N % 4294967296) (by omega)
    obtain ⟨e5, e6⟩ := hw 2 rfl (N / 4294967296) (by omega)
    obtain ⟨e7, e8⟩ := hw 1 rfl (N % 256) (by omega)
    have E1 : Hid (putL 6 N = leB 6 N ∧ putE 6 N = 0) := Lib.hid ⟨e1, e2⟩
    have E2 : Hid (putL 4 ((N : Int) % 4294967296) = leB 4 (N % 4294967296) ∧ putE 4 ((N : Int) % 4294967296) = 0) := Lib.hid ⟨e3, e4⟩
    have E3 : Hid (putL 2 ((N : Int) / 4294967296) = leB 2 (N / 4294967296) ∧ putE 2 ((N : Int) / 4294967296) = 0) := Lib.hid ⟨e5, e6⟩
    have E4 : Hid (putL 1 ((N : Int) % 256) = leB 1 (N % 256) ∧ putE 1 ((N : Int) % 256) = 0) := Lib.hid ⟨e7, e8⟩
    have E5 : Hid (leB 4 (N % 4294967296) ++ leB 2 (N / 4294967296) = leB 6 N) := Lib.hid (by rw [show 4294967296 = 256 ^ 4 from rfl, leB_mod, ← leB_add])
    have E6 : Hid ((leB 6 N).take 1 = leB 1 (N % 256)) := Lib.hid (by rw [show (6 : Nat) = 1 + 5 from rfl, leB_add, List.take_left' (leB_length 1 N), show 256 = 256 ^ 1 from rfl, leB_mod])
    clear e1 e2 e3 e4 e5 e6 e7 e8 hw
    have mm := le_maxLen
    go_enter Try.func9, Try.ntmps9
    go_wp2_with fail
    refine (awake_any _).mono ?_
    rintro e w1 ⟨rfl, hb1⟩
    go_wp2_with fail
    refine (put_any 6 N _).mono ?_
    rw [E1.out.1, E1.out.2]
    rintro e w2 ⟨A2, c2, rfl, hown2, hb2⟩
    rw [leB_length]
    obtain ⟨hc2, hm2⟩ := hown2.caps
    rw [leB_length] at hc2
    go_wp2_with fail
    refine (put_any 4 _ _).mono ?_
    rw [E2.out.1, E2.out.2]
    rintro e w3 ⟨A3, c3, rfl, hown3, hb3⟩
    go_wp2_with fail
    refine (put_any 2 _ _).mono ?_
    rw [E3.out.1, E3.out.2]
    rintro e w4 ⟨A4, c4, rfl, hown4, hb4⟩
    go_wp2_with fail
    refine (put_any 1 _ _).mono ?_
    rw [E4.out.1, E4.out.2]
    rintro e w5 ⟨A5, c5, rfl, hown5, hb5⟩
    go_wp2_with fail
    have E7 : Hid ((leB 4 (N % 4294967296)).length = 4 ∧ (leB 2 (N / 4294967296)).length = 2 ∧ (leB 1 (N % 256)).length = 1) := Lib.hid ⟨leB_length _ _, leB_length _ _, leB_length _ _⟩
    have s1 := E7.out.1
    have s2 := E7.out.2.1
    have s3 := E7.out.2.2
    refine (join_any _ 2 [leB 4 (N % 4294967296), leB 2 (N / 4294967296)] _ (rdl_lit w5 _ [(A3, c3, leB 4 (N % 4294967296)), (A4, c4, leB 2 (N / 4294967296))] ?_) (by simp) (by omega) (by simp; omega)).mono ?_
    · simp only [List.forall_mem_cons]
      exact ⟨hown3.rd.below (bt hb4 hb5), hown4.rd.below hb5, by simp⟩
    rw [show [leB 4 (N % 4294967296), leB 2 (N / 4294967296)].flatten = leB 6 N by rw [← E5.out]; simp]
    rintro e w6 ⟨A6, c6, rfl, hown6, hb6⟩
    have b56 : Below w5.heap.size w5 w6 := bt ((Below.refl _ _).alloc (Nat.le_refl _) _) hb6
    rw [leB_length]
    clear s1 s2 s3
    go_wp2_with fail
    refine (same_n _ _ _ _ (leB 6 N) (leB 6 N) _ _ _ hown6.rd (hown2.rd.below (bt (bt (bt hb3 hb4) hb5) b56)) ?_ ?_ (leB_length _ _).symm (leB_length _ _).symm).mono ?_
    · rw [leB_length]; omega
    · rw [leB_length]; omega
    rw [eqB_self']
    rintro e w7 ⟨rfl, hb7⟩
    go_wp2_with fail
    have rb := (hown2.rd.below (bt (bt (bt (bt hb3 hb4) hb5) b56) hb7)).take 1
    rw [E6.out] at rb
    refine (same_n _ _ _ _ (leB 1 (N % 256)) (leB 1 (N % 256)) _ _ _ (hown5.rd.below (bt b56 hb7)) rb ?_ ?_ rfl (leB_length _ _).symm).mono ?_
    · rw [leB_length]; omega
    · rw [leB_length]; omega
    rw [eqB_self']
    rintro e w8 ⟨rfl, hb8⟩
    go_wp2_with fail
    go_ret
    exact ⟨rfl, bt (bt (bt (bt (bt (bt (bt hb1 hb2) hb3) hb4) hb5) b56) hb7) hb8⟩

theorem u64_tmod (x : Int) (m : Int) (hm : 0 < m) : ∃ k : Nat, (IntKind.u64.wrap x).tmod m = k ∧ (k : Int) < m := by
  have h0 : 0 ≤ IntKind.u64.wrap x := by
    simp only [IntKind.wrap_u64]
    omega
  rw [Int.tmod_eq_emod_of_nonneg h0]
  have h1 := Int.emod_nonneg (IntKind.u64.wrap x) (show m ≠ 0 by omega)
  have h2 := Int.emod_lt_of_pos (IntKind.u64.wrap x) hm
  exact ⟨(IntKind.u64.wrap x % m).toNat, by omega, by omega⟩

theorem getE_short (l : List UInt8) (width : Int) (h : isWidth width = true) (hl : (l.length : Int) < width) : getE l 0 width = 10 := by
  unfold getE
  rw [h, if_neg (by simp), if_neg (by omega), if_pos (by omega)]
theorem getNP_ten {l : List UInt8} {a width : Int} (h : getE l a width = 10) : getN l a width = 0 ∧ getP l a width = 0 := by
  simp [getN, getP, h]
theorem readE_cut (s : List UInt8) (k : Nat) (hs : s.length ≤ 255) (hk : k ≤ s.length) : readE ((textL s).take k) 0 = 10 ∧ readP ((textL s).take k) 0 = 0 ∧ readS ((textL s).take k) 0 = [] := by
  have h : readE ((textL s).take k) 0 = 10 := by
    rw [textL, if_pos hs]
    cases k with
    | zero => rfl
    | succ k =>
      rw [List.take_succ_cons]
      have h1 : getE (UInt8.ofNat s.length :: s.take k) 0 1 = 0 := by
        unfold getE
        rw [if_neg (by decide), if_neg (by simp; omega), if_neg (by simp; omega)]
      have h2 : getN (UInt8.ofNat s.length :: s.take k) 0 1 = s.length := by
        unfold getN
        rw [if_pos h1]
        simp [leN]
        omega
      unfold readE
      rw [h1, h2, if_neg (by simp), if_pos (by simp; omega)]
  exact ⟨h, by unfold readP; rw [h]; rfl, by unfold readS; rw [h]; rfl⟩

set_option maxHeartbeats 1000000 in
theorem octetShort_walk (s : ByteArray) (missing : Int) (width : Nat) (w : World) (hs : s.size ≤ maxLen) (w1l : -9223372036854775808 ≤ missing) (w1h : missing ≤ 9223372036854775807) (hw : width < 256) :
    Calls Try.prog 6 #[.string s, .int .i64 missing, .int .u8 width] w (RetV w (.bool true)) := by
  have mm := le_maxLen
  by_cases hl : 255 < s.size
  · go_enter Try.func6, Try.ntmps6
    go_wp2_with fail
    refine (awake_any _).mono ?_
    rintro e w1 ⟨rfl, hb1⟩
    go_wp2_with fail
    go_ret
    exact ⟨rfl, hb1⟩
  obtain ⟨L, HL⟩ : ∃ L, Hid (L = textL s.data.toList) := ⟨_, Lib.hid rfl⟩
  have hsl : s.data.toList.length = s.size := Array.length_toList (xs := s.data)
  have hLl : L.length = s.size + 1 := by rw [HL.out, textL, if_pos (by omega)]; simp
  have hE : Hid (textE s.data.toList = 0) := Lib.hid (by rw [textE, if_pos (by omega)])
  obtain ⟨k, hk, hkl⟩ := u64_tmod missing ((s.size : Int) + 1) (by omega)
  have hR := readE_cut s.data.toList (s.size - k) (by omega) (by omega)
  rw [← HL.out] at hR
  have HR := Lib.hid hR
  have HLL := Lib.hid hLl
  clear hsl hLl hR
  have hw4 : width % 4 = 0 ∨ width % 4 = 1 ∨ width % 4 = 2 ∨ width % 4 = 3 := by omega
  obtain ⟨W, hW, h41, h42⟩ : ∃ W : Nat, isWidth W = true ∧ (∀ (w : World) (T : TypeId), (w.alloc (.cells #[.int .i64 1, .int .i64 2, .int .i64 4, .int .i64 6] T)).cell? ⟨w.heap.size, width % 4, none⟩ = some (.int .i64 W)) ∧ 1 ≤ W ∧ W ≤ 6 := by
    rcases hw4 with e | e | e | e <;> rw [e]
    · exact ⟨1, rfl, fun w T => by rw [cell_of_row _ _ _ _ _ _ (heap_alloc_new w _)]; rfl, by omega, by omega⟩
    · exact ⟨2, rfl, fun w T => by rw [cell_of_row _ _ _ _ _ _ (heap_alloc_new w _)]; rfl, by omega, by omega⟩
    · exact ⟨4, rfl, fun w T => by rw [cell_of_row _ _ _ _ _ _ (heap_alloc_new w _)]; rfl, by omega, by omega⟩
    · exact ⟨6, rfl, fun w T => by rw [cell_of_row _ _ _ _ _ _ (heap_alloc_new w _)]; rfl, by omega, by omega⟩
  obtain ⟨j, hj, hjl⟩ := u64_tmod missing (W : Int) (by omega)
  have HW := Lib.hid hW
  clear hW hw4
  go_enter Try.func6, Try.ntmps6
  go_wp2_with fail
  refine (awake_any _).mono ?_
  rintro e w1 ⟨rfl, hb1⟩
  go_wp2_with fail
  refine (text_any _ _ hs).mono ?_
  rw [← HL.out, hE.out]
  rintro e w2 ⟨A2, c2, rfl, hown2, hb2⟩
  obtain ⟨hc2, hm2⟩ := hown2.caps
  rw [HLL.out] at hc2 ⊢
  have hm2' := hm2
  unfold maxLen at hm2'
  go_wp2_with fail
  have hln : s.size + 1 - (1 + k) = (L.take (s.size - k)).length := by rw [List.length_take, HLL.out]; omega
  refine (read_n _ _ (L.take (s.size - k)) _ 0 _ (hown2.rd.take _) (by rw [← hln]; omega) hm2 hln).mono ?_
  rw [HR.out.1, HR.out.2.1, HR.out.2.2]
  rintro e w3 ⟨rfl, hb3⟩
  have h43 := h41 w3 3
  clear hln h41
  have hz3 : w.heap.size ≤ w3.heap.size + 1 := by have := hb1.size; have := hb2.size; have := hb3.size; omega
  go_wp2_with (at_make; refine wpList_make_bytes _ rfl _ _ rfl w.heap.size .i64 .i64 _ _ j rfl rfl rfl rfl (by omega) (by simp; omega) ?_; intro w4 hown4 hb4 hz4)
  have hown4 : Own w4 w.heap.size (some ⟨w3.heap.size + 1, 0, none⟩) j (List.replicate j 0) := by
    have h := hown4
    rwa [show (World.alloc w3 _).heap.size = w3.heap.size + 1 from by simp] at h
  have hE2 : getE (List.replicate j 0) 0 W = 10 := getE_short _ _ HW.out (by simp; omega)
  refine (get_n _ _ (List.replicate j 0) _ 0 W _ hown4.rd (by simp) (by unfold maxLen; omega) (by simp)).mono ?_
  rw [hE2, (getNP_ten hE2).1, (getNP_ten hE2).2]
  rintro e w5 ⟨rfl, hb5⟩
  go_wp2_with fail
  go_ret
  exact ⟨rfl, bt (bt (bt (bt hb1 hb2) hb3) (((Below.refl _ _).alloc (Nat.le_refl _) _).trans (hb4.mono (by simp)))) hb5⟩

theorem take_behind (a b c : List UInt8) : ((a ++ (b ++ c)).drop a.length).take b.length = b := by
  rw [List.drop_left, List.take_left]

set_option maxHeartbeats 1000000 in
theorem octetBack_walk (width n : Int) (A : Option Addr) (c : Nat) (l : List UInt8) (B : Option Addr) (d : Nat) (m : List UInt8) (w : World) (w0l : -9223372036854775808 ≤ width) (w0h : width ≤ 9223372036854775807) (w1l : -9223372036854775808 ≤ n) (w1h : n ≤ 9223372036854775807)
    (hr : Rd w A l) (hc : l.length ≤ c) (hm : c ≤ maxLen) (hr2 : Rd w B m) (hc2 : m.length ≤ d) (hm2 : d ≤ maxLen) :
    Calls Try.prog 7 #[.int .i64 width, .int .i64 n, .slice A l.length c, .slice B m.length d] w (RetV w (.bool true)) := by
  have mm := le_maxLen
  by_cases h1 : 300 < l.length
  · go_enter Try.func7, Try.ntmps7
    go_wp2_with fail
    refine (awake_any _).mono ?_
    rintro e w1 ⟨rfl, hb1⟩
    go_wp2_with fail
    go_ret
    exact ⟨rfl, hb1⟩
  by_cases h2 : 300 < m.length
  · go_enter Try.func7, Try.ntmps7
    go_wp2_with fail
    refine (awake_any _).mono ?_
    rintro e w1 ⟨rfl, hb1⟩
    go_wp2_with fail
    go_ret
    exact ⟨rfl, hb1⟩
  cases hf : fitsB width n
  · have e1 : putL width n = [] := by simp [putL, hf]
    have e2 : putE width n = 2 := by simp [putE, hf]
    have H := Lib.hid hf
    have H1 := Lib.hid e1
    have H2 := Lib.hid e2
    clear hf e1 e2
    go_enter Try.func7, Try.ntmps7
    go_wp2_with fail
    refine (awake_any _).mono ?_
    rintro e w1 ⟨rfl, hb1⟩
    go_wp2_with fail
    refine (put_any width n _).mono ?_
    rw [H1.out, H2.out]
    rintro e w2 ⟨A2, c2, rfl, hown2, hb2⟩
    go_wp2_with fail
    refine (fits_any width n _).mono ?_
    rw [H.out]
    rintro e w3 ⟨rfl, hb3⟩
    go_wp2_with fail
    go_ret
    exact ⟨rfl, bt (bt hb1 hb2) hb3⟩
  obtain ⟨hw, k1, k2, k3, k4, k5⟩ := fitsB_true hf
  obtain ⟨W, rfl⟩ := Int.eq_ofNat_of_zero_le k1
  obtain ⟨N, rfl⟩ := Int.eq_ofNat_of_zero_le k3
  have hN : N < 281474976710656 := by omega
  have hNW : N < 256 ^ W := by rw [Int.toNat_natCast] at k5; rw [← Int.ofNat_lt]; simpa using k5
  have hW : W ≤ 6 := by omega
  have e1 : Hid (putL W N = leB W N) := Lib.hid (by simp [putL, hf])
  have e2 : Hid (putE W N = 0) := Lib.hid (by simp [putE, hf])
  have hLl : (leB W N).length = W := leB_length _ _
  obtain ⟨L, HL⟩ : ∃ L, Hid (L = l ++ (leB W N ++ m)) := ⟨_, Lib.hid rfl⟩
  have hLL : L.length = l.length + (W + m.length) := by rw [HL.out]; simp [leB_length]
  have g1 : getE L l.length W = 0 := by
    unfold getE; rw [if_neg (by rw [hw]; simp), if_neg (by omega), if_neg (by omega)]
  have g2 : getN L l.length W = N := by
    unfold getN
    rw [if_pos g1, Int.toNat_natCast, Int.toNat_natCast, HL.out]
    have := take_behind l (leB W N) m
    rw [hLl] at this
    rw [this, leN_leB, Nat.mod_eq_of_lt hNW]
  have g3 : getP L l.length W = (l.length : Int) + W := by unfold getP; rw [if_pos g1]
  have g4 : getE L 0 W = 0 := by
    unfold getE; rw [if_neg (by rw [hw]; simp), if_neg (by omega), if_neg (by omega)]
  obtain ⟨X, HX⟩ : ∃ X, Hid (X = leN (L.take W)) := ⟨_, Lib.hid rfl⟩
  have g5 : getN L 0 W = X := by
    unfold getN
    rw [if_pos g4, HX.out]; simp
  have g6 : getP L 0 W = W := by unfold getP; rw [if_pos g4]; simp
  have htl : (L.take W).length = W := by rw [List.length_take]; omega
  have hXW : X < 256 ^ W := by have := leN_lt (L.take W); rw [htl] at this; rw [HX.out]; exact this
  have hfx : fitsB W X = true := by rw [fitsB_nat hw, Nat.div_eq_of_lt hXW]; rfl
  have p1 : Hid (putL W X = L.take W) := Lib.hid (by
    have := leB_leN (L.take W)
    rw [htl] at this
    simp only [putL, hfx, if_true, Int.toNat_natCast]
    rw [HX.out]; exact this)
  have p2 : Hid (putE W X = 0) := Lib.hid (by simp [putE, hfx])
  have G1 := Lib.hid g1
  have G2 := Lib.hid g2
  have G3 := Lib.hid g3
  have G4 := Lib.hid g4
  have G5 := Lib.hid g5
  have G6 := Lib.hid g6
  have HLL := Lib.hid hLL
  have HTL := Lib.hid htl
  have HLl := Lib.hid hLl
  clear hf hw k1 k2 k3 k4 k5 w0l w0h w1l w1h hLl hLL g1 g2 g3 g4 g5 g6 htl hXW hfx hNW
  go_enter Try.func7, Try.ntmps7
  go_wp2_with fail
  refine (awake_any _).mono ?_
  rintro e w1 ⟨rfl, hb1⟩
  go_wp2_with fail
  refine (put_any W N _).mono ?_
  rw [e1.out, e2.out]
  rintro e w2 ⟨A2, c2, rfl, hown2, hb2⟩
  go_wp2_with fail
  have b2 := bt hb1 hb2
  refine (join_any _ 3 [l, leB W N, m] _ (rdl_lit w2 _ [(A, c, l), (A2, c2, leB W N), (B, d, m)] ?_) (by simp) (by omega) ?_).mono ?_
  · simp only [List.forall_mem_cons]
    exact ⟨hr.below b2, hown2.rd, hr2.below b2, by simp⟩
  · have := HLl.out; simp; omega
  rw [show [l, leB W N, m].flatten = L by rw [HL.out]; simp]
  rintro e w3 ⟨A3, c3, rfl, hown3, hb3⟩
  have b3 : Below w2.heap.size w2 w3 := bt ((Below.refl _ _).alloc (Nat.le_refl _) _) hb3
  obtain ⟨hc3, hm3⟩ := hown3.caps
  rw [HLL.out] at hc3 ⊢
  rw [HLl.out]
  have hm3' := hm3
  unfold maxLen at hm3'
  go_wp2_with fail
  refine (get_n _ _ L _ l.length W _ hown3.rd (by rw [HLL.out]; exact hc3) hm3 HLL.out.symm).mono ?_
  rw [G1.out, G2.out, G3.out]
  rintro e w4 ⟨rfl, hb4⟩
  go_wp2_with fail
  refine (get_n _ _ L _ 0 W _ (hown3.rd.below hb4) (by rw [HLL.out]; exact hc3) hm3 HLL.out.symm).mono ?_
  rw [G4.out, G5.out, G6.out]
  rintro e w5 ⟨rfl, hb5⟩
  go_wp2_with fail
  refine (put_any W X _).mono ?_
  rw [p1.out, p2.out]
  rintro e w6 ⟨A6, c6, rfl, hown6, hb6⟩
  rw [HTL.out]
  go_wp2_with fail
  refine (same_n _ _ _ _ (L.take W) (L.take W) _ _ _ hown6.rd ((hown3.rd.below (bt (bt hb4 hb5) hb6)).take W) (by rw [HTL.out]; omega) (by rw [HTL.out]; omega) HTL.out.symm HTL.out.symm).mono ?_
  rw [eqB_self']
  rintro e w7 ⟨rfl, hb7⟩
  go_wp2_with fail
  go_ret
  exact ⟨rfl, bt (bt (bt (bt (bt b2 b3) hb4) hb5) hb6) hb7⟩

/-- a text, whatever stands ahead of and behind it -/
theorem read_mid (a b c : List UInt8) (hb : b.length ≤ 255) : readE (a ++ (textL b ++ c)) a.length = 0 ∧ readP (a ++ (textL b ++ c)) a.length = (a.length : Int) + 1 + b.length ∧ readS (a ++ (textL b ++ c)) a.length = b := by
  have ht : textL b = UInt8.ofNat b.length :: b := by rw [textL, if_pos hb]
  rw [ht]
  have h1 : getE (a ++ (UInt8.ofNat b.length :: b ++ c)) a.length 1 = 0 := by
    unfold getE
    rw [if_neg (by decide), if_neg (by simp; omega), if_neg (by simp; omega)]
  have h2 : getN (a ++ (UInt8.ofNat b.length :: b ++ c)) a.length 1 = b.length := by
    unfold getN
    rw [if_pos h1, Int.toNat_natCast, List.drop_left]
    simp [leN]
    omega
  have h : readE (a ++ (UInt8.ofNat b.length :: b ++ c)) a.length = 0 := by
    unfold readE
    rw [h1, h2, if_neg (by simp), if_neg (by simp; omega)]
  refine ⟨h, by unfold readP; rw [if_pos h, h2], ?_⟩
  unfold readS
  rw [if_pos h, h2, Int.toNat_natCast, Int.toNat_natCast]
  have : (a ++ (UInt8.ofNat b.length :: b ++ c)).drop (a.length + 1) = b ++ c := by
    rw [show a.length + 1 = a.length + 1 from rfl, ← List.drop_drop, List.drop_left]
    rfl
  rw [this, List.take_left]

set_option maxHeartbeats 1000000 in
theorem octetTextBack_walk (s t : ByteArray) (A : Option Addr) (c : Nat) (l : List UInt8) (w : World) (hs : s.size ≤ maxLen) (ht : t.size ≤ maxLen) (hr : Rd w A l) (hc : l.length ≤ c) (hm : c ≤ maxLen) :
    Calls Try.prog 8 #[.string s, .string t, .slice A l.length c] w (RetV w (.bool true)) := by
  have mm := le_maxLen
  have h3 : s.size ≤ 300 ∧ t.size ≤ 300 ∧ l.length ≤ 300 ∨ 300 < s.size ∨ 300 < t.size ∨ 300 < l.length := by omega
  rcases h3 with ⟨h1, h2, h3⟩ | h3 | h3 | h3
  rotate_left
  · go_enter Try.func8, Try.ntmps8
    go_wp2_with fail
    refine (awake_any _).mono ?_
    rintro e w1 ⟨rfl, hb1⟩
    go_wp2_with fail
    go_ret
    exact ⟨rfl, hb1⟩
  · go_enter Try.func8, Try.ntmps8
    go_wp2_with fail
    refine (awake_any _).mono ?_
    rintro e w1 ⟨rfl, hb1⟩
    go_wp2_with fail
    all_goals
      go_ret
      exact ⟨rfl, hb1⟩
  · go_enter Try.func8, Try.ntmps8
    go_wp2_with fail
    refine (awake_any _).mono ?_
    rintro e w1 ⟨rfl, hb1⟩
    go_wp2_with fail
    all_goals
      go_ret
      exact ⟨rfl, hb1⟩
  have hsl : s.data.toList.length = s.size := Array.length_toList (xs := s.data)
  have htl : t.data.toList.length = t.size := Array.length_toList (xs := t.data)
  have tE : ∀ x : ByteArray, x.data.toList.length = x.size → (x.size ≤ 255 → textE x.data.toList = 0) ∧ (255 < x.size → textE x.data.toList = 3) := by
    intro x hx
    exact ⟨fun h => by rw [textE, if_pos (by omega)], fun h => by rw [textE, if_neg (by omega)]⟩
  have HSL := Lib.hid hsl
  have HTL := Lib.hid htl
  by_cases hs5 : 255 < s.size
  · have e1 := Lib.hid ((tE s hsl).2 hs5)
    by_cases ht5 : 255 < t.size
    · have e2 := Lib.hid ((tE t htl).2 ht5)
      have ds : decide ((s.size : Int) ≤ 255) = false := by simp; omega
      have dt : decide ((t.size : Int) ≤ 255) = false := by simp; omega
      clear tE hsl htl
      go_enter Try.func8, Try.ntmps8
      go_wp2_with fail
      refine (awake_any _).mono ?_
      rintro e w1 ⟨rfl, hb1⟩
      go_wp2_with fail
      refine (text_any s _ hs).mono ?_
      rw [e1.out]
      rintro e w2 ⟨A2, c2, rfl, hown2, hb2⟩
      go_wp2_with fail
      refine (text_any t _ ht).mono ?_
      rw [e2.out]
      rintro e w3 ⟨A3, c3, rfl, hown3, hb3⟩
      go_wp2_with fail
      go_ret
      exact ⟨rfl, bt (bt hb1 hb2) hb3⟩
    · have e2 := Lib.hid ((tE t htl).1 (by omega))
      have ds : decide ((s.size : Int) ≤ 255) = false := by simp; omega
      have dt : decide ((t.size : Int) ≤ 255) = true := by simp; omega
      clear tE hsl htl
      go_enter Try.func8, Try.ntmps8
      go_wp2_with fail
      refine (awake_any _).mono ?_
      rintro e w1 ⟨rfl, hb1⟩
      go_wp2_with fail
      refine (text_any s _ hs).mono ?_
      rw [e1.out]
      rintro e w2 ⟨A2, c2, rfl, hown2, hb2⟩
      go_wp2_with fail
      refine (text_any t _ ht).mono ?_
      rw [e2.out]
      rintro e w3 ⟨A3, c3, rfl, hown3, hb3⟩
      go_wp2_with fail
      go_ret
      exact ⟨rfl, bt (bt hb1 hb2) hb3⟩
  · have e1 := Lib.hid ((tE s hsl).1 (by omega))
    by_cases ht5 : 255 < t.size
    · have e2 := Lib.hid ((tE t htl).2 ht5)
      have ds : decide ((s.size : Int) ≤ 255) = true := by simp; omega
      have dt : decide ((t.size : Int) ≤ 255) = false := by simp; omega
      clear tE hsl htl
      go_enter Try.func8, Try.ntmps8
      go_wp2_with fail
      refine (awake_any _).mono ?_
      rintro e w1 ⟨rfl, hb1⟩
      go_wp2_with fail
      refine (text_any s _ hs).mono ?_
      rw [e1.out]
      rintro e w2 ⟨A2, c2, rfl, hown2, hb2⟩
      go_wp2_with fail
      refine (text_any t _ ht).mono ?_
      rw [e2.out]
      rintro e w3 ⟨A3, c3, rfl, hown3, hb3⟩
      go_wp2_with fail
      go_ret
      exact ⟨rfl, bt (bt hb1 hb2) hb3⟩
    · have e2 := Lib.hid ((tE t htl).1 (by omega))
      obtain ⟨S, HS⟩ : ∃ S, Hid (S = s.data.toList) := ⟨_, Lib.hid rfl⟩
      obtain ⟨T, HT⟩ : ∃ T, Hid (T = t.data.toList) := ⟨_, Lib.hid rfl⟩
      obtain ⟨L, HL⟩ : ∃ L, Hid (L = l ++ (textL S ++ textL T)) := ⟨_, Lib.hid rfl⟩
      have l1 : S.length = s.size := by rw [HS.out, hsl]
      have l2 : T.length = t.size := by rw [HT.out, htl]
      have l3 : (textL S).length = s.size + 1 := by rw [textL, if_pos (by omega)]; simp; omega
      have l4 : (textL T).length = t.size + 1 := by rw [textL, if_pos (by omega)]; simp; omega
      have l5 : L.length = l.length + (s.size + 1 + (t.size + 1)) := by rw [HL.out]; simp; omega
      have r1 := read_mid l S (textL T) (by omega)
      rw [← HL.out, l1] at r1
      have r2 := read_mid (l ++ textL S) T [] (by omega)
      rw [List.append_nil, List.append_assoc, ← HL.out, List.length_append, l3, l2] at r2
      have R1 := Lib.hid r1
      have R2 := Lib.hid r2
      have L3 := Lib.hid l3
      have L4 := Lib.hid l4
      have L5 := Lib.hid l5
      have KS : Hid (str S = .string s) := Lib.hid (by rw [HS.out])
      have KT : Hid (str T = .string t) := Lib.hid (by rw [HT.out])
      have ds : decide ((s.size : Int) ≤ 255) = true := by simp; omega
      have dt : decide ((t.size : Int) ≤ 255) = true := by simp; omega
      clear tE hsl htl l1 l2 l3 l4 l5 r1 r2
      go_enter Try.func8, Try.ntmps8
      go_wp2_with fail
      refine (awake_any _).mono ?_
      rintro e w1 ⟨rfl, hb1⟩
      go_wp2_with fail
      refine (text_any s _ hs).mono ?_
      rw [e1.out, ← HS.out]
      rintro e w2 ⟨A2, c2, rfl, hown2, hb2⟩
      go_wp2_with fail
      refine (text_any t _ ht).mono ?_
      rw [e2.out, ← HT.out]
      rintro e w3 ⟨A3, c3, rfl, hown3, hb3⟩
      go_wp2_with fail
      have b3 := bt (bt hb1 hb2) hb3
      refine (join_any _ 3 [l, textL S, textL T] _ (rdl_lit w3 _ [(A, c, l), (A2, c2, textL S), (A3, c3, textL T)] ?_) (by simp) (by omega) ?_).mono ?_
      · simp only [List.forall_mem_cons]
        exact ⟨hr.below b3, hown2.rd.below hb3, hown3.rd, by simp⟩
      · have := L3.out; have := L4.out; simp; omega
      rw [show [l, textL S, textL T].flatten = L by rw [HL.out]; simp]
      rintro e w4 ⟨A4, c4, rfl, hown4, hb4⟩
      have b4 : Below w3.heap.size w3 w4 := bt ((Below.refl _ _).alloc (Nat.le_refl _) _) hb4
      obtain ⟨hc4, hm4⟩ := hown4.caps
      rw [L5.out] at hc4 ⊢
      have hm4' := hm4
      unfold maxLen at hm4'
      go_wp2_with fail
      refine (read_n _ _ L _ l.length _ hown4.rd (by rw [L5.out]; exact hc4) hm4 L5.out.symm).mono ?_
      rw [R1.out.1, R1.out.2.1, R1.out.2.2, KS.out]
      rintro e w5 ⟨rfl, hb5⟩
      go_wp2_with fail
      rw [show (l.length : Int) + 1 + s.size = ((l.length + (s.size + 1) : Nat) : Int) by omega]
      refine (read_n _ _ L _ _ _ (hown4.rd.below hb5) (by rw [L5.out]; exact hc4) hm4 L5.out.symm).mono ?_
      rw [R2.out.1, R2.out.2.1, R2.out.2.2, KT.out]
      rintro e w6 ⟨rfl, hb6⟩
      go_wp2_with fail
      go_ret
      exact ⟨ret_bool (by rw [beq_iff_eq]; omega), bt (bt (bt b3 b4) hb5) hb6⟩
end Go.Proofs.Ytgdgggklagmpoaa
