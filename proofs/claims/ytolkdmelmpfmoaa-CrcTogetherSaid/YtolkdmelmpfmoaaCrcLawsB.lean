/-
  THE WALKS OF THE LAWS ON SUMS, MORE.
-/
import Derived.Test.YtolkdmelmpfmoaaCrcLaws
import Derived.StillTailTactics
namespace Go.Proofs.Ytolkdmelmpfmoaa
open Go.RowKit
set_option linter.unusedVariables false

theorem copy_n (A : Option Addr) (c : Nat) (l : List UInt8) (n : Nat) (w : World) (hl : Rd w A l) (hc : l.length ≤ 140737488355328) (hn : n = l.length) :
    Calls Try.prog 14 #[.slice A n c] w (RetB w l) := by
  subst hn
  exact copy_any A c l w hl hc

set_option maxHeartbeats 400000 in
theorem crcFar_walk (a : Nat) (n m : Int) (w : World) (ha : a < 2 ^ 32) (h0 : -9223372036854775808 ≤ n) (h1 : n ≤ 9223372036854775807) (h2 : -9223372036854775808 ≤ m) (h3 : m ≤ 9223372036854775807) :
    Calls Try.prog 7 #[.int .u32 a, .int .i64 n, .int .i64 m] w (RetV w (.bool true)) := by
  have ha' : a < 4294967296 := ha
  clear ha
  have hc : (0 ≤ n ∧ n ≤ 524288 ∧ 0 ≤ m ∧ m ≤ 524288) ∨ n < 0 ∨ 524288 < n ∨ m < 0 ∨ 524288 < m := by omega
  rcases hc with ⟨g0, g1, g2, g3⟩ | g | g | g | g
  rotate_left
  · go_enter Try.func7, Try.ntmps7
    go_wp2_with fail
    refine (awake_any _).mono ?_
    rintro e w1 ⟨rfl, hb1⟩
    go_wp2_with fail
    all_goals
      go_ret
      exact ⟨rfl, hb1⟩
  · go_enter Try.func7, Try.ntmps7
    go_wp2_with fail
    refine (awake_any _).mono ?_
    rintro e w1 ⟨rfl, hb1⟩
    go_wp2_with fail
    all_goals
      go_ret
      exact ⟨rfl, hb1⟩
  · by_cases gn : 0 ≤ n ∧ n ≤ 524288
    · obtain ⟨gn1, gn2⟩ := gn
      go_enter Try.func7, Try.ntmps7
      go_wp2_with fail
      refine (awake_any _).mono ?_
      rintro e w1 ⟨rfl, hb1⟩
      go_wp2_with fail
      go_ret
      exact ⟨rfl, hb1⟩
    · go_enter Try.func7, Try.ntmps7
      go_wp2_with fail
      refine (awake_any _).mono ?_
      rintro e w1 ⟨rfl, hb1⟩
      go_wp2_with fail
      all_goals
        go_ret
        exact ⟨rfl, hb1⟩
  · by_cases gn : 0 ≤ n ∧ n ≤ 524288
    · obtain ⟨gn1, gn2⟩ := gn
      go_enter Try.func7, Try.ntmps7
      go_wp2_with fail
      refine (awake_any _).mono ?_
      rintro e w1 ⟨rfl, hb1⟩
      go_wp2_with fail
      all_goals
        go_ret
        exact ⟨rfl, hb1⟩
    · go_enter Try.func7, Try.ntmps7
      go_wp2_with fail
      refine (awake_any _).mono ?_
      rintro e w1 ⟨rfl, hb1⟩
      go_wp2_with fail
      all_goals
        go_ret
        exact ⟨rfl, hb1⟩
  obtain ⟨N, rfl⟩ := Int.eq_ofNat_of_zero_le g0
  obtain ⟨M, rfl⟩ := Int.eq_ofNat_of_zero_le g2
  clear h0 h1 h2 h3
  have cE : ∀ k : Nat, k ≤ 1048576 → combE (k : Int) = 0 := fun k hk => by unfold combE; rw [if_neg (by omega)]
  have cN : ∀ (x y k : Nat), k ≤ 1048576 → combN x y (k : Int) = stn (8 * k) x ^^^ y := fun x y k hk => by unfold combN; rw [if_neg (by omega), Int.toNat_natCast]
  obtain ⟨X, HX⟩ : ∃ X, Hid (X = stn (8 * N) a) := ⟨_, Lib.hid rfl⟩
  obtain ⟨Y, HY⟩ : ∃ Y, Hid (Y = stn (8 * M) X) := ⟨_, Lib.hid rfl⟩
  have hX : X < 4294967296 := by rw [HX.out]; exact stn_lt _ ha'
  have E1 : Hid (combN a 0 N = X ∧ combE N = 0) := Lib.hid ⟨by rw [cN _ _ _ (by omega), Nat.xor_zero, HX.out], cE _ (by omega)⟩
  have E2 : Hid (combN X 0 M = Y ∧ combE M = 0) := Lib.hid ⟨by rw [cN _ _ _ (by omega), Nat.xor_zero, HY.out], cE _ (by omega)⟩
  have E3 : Hid (combN a 0 ((N : Int) + M) = Y ∧ combE ((N : Int) + M) = 0) := Lib.hid (by
    rw [show (N : Int) + M = ((N + M : Nat) : Int) by omega]
    exact ⟨by rw [cN _ _ _ (by omega), Nat.xor_zero, HY.out, HX.out, ← stn_add, Nat.mul_add], cE _ (by omega)⟩)
  have E4 : Hid (combN 0 a N = a) := Lib.hid (by rw [cN _ _ _ (by omega), stn_zero, Nat.zero_xor])
  clear cE cN
  go_enter Try.func7, Try.ntmps7
  go_wp2_with fail
  refine (awake_any _).mono ?_
  rintro e w1 ⟨rfl, hb1⟩
  go_wp2_with fail
  refine (combine_i a 0 _ _ N _ ha' (by omega) rfl (by omega)).mono ?_
  rw [E1.out.1, E1.out.2]
  rintro e w2 ⟨rfl, rfl⟩
  go_wp2_with fail
  refine (combine_i X 0 _ _ M _ hX (by omega) rfl (by omega)).mono ?_
  rw [E2.out.1, E2.out.2]
  rintro e w2 ⟨rfl, rfl⟩
  go_wp2_with fail
  refine (combine_i a 0 _ _ _ _ ha' (by omega) rfl (by omega)).mono ?_
  rw [E3.out.1, E3.out.2]
  rintro e w2 ⟨rfl, rfl⟩
  go_wp2_with fail
  refine (combine_i 0 a _ _ N _ (by omega) ha' (by omega) rfl).mono ?_
  rw [E4.out, E1.out.2]
  rintro e w2 ⟨rfl, rfl⟩
  go_wp2_with fail
  go_ret
  exact ⟨rfl, hb1⟩

set_option maxHeartbeats 1000000 in
theorem crcTogether_walk (A : Option Addr) (ca : Nat) (a : List UInt8) (B : Option Addr) (cb : Nat) (b : List UInt8) (C : Option Addr) (cc : Nat) (c : List UInt8) (w : World) (hra : Rd w A a) (hca : a.length ≤ ca) (hma : ca ≤ maxLen)
    (hrb : Rd w B b) (hcb : b.length ≤ cb) (hmb : cb ≤ maxLen) (hrc : Rd w C c) (hcc : c.length ≤ cc) (hmc : cc ≤ maxLen) :
    Calls Try.prog 11 #[.slice A a.length ca, .slice B b.length cb, .slice C c.length cc] w (RetV w (.bool true)) := by
  have mm := le_maxLen
  by_cases h1 : 1000 < a.length
  · go_enter Try.func11, Try.ntmps11
    go_wp2_with fail
    refine (awake_any _).mono ?_
    rintro e w1 ⟨rfl, hb1⟩
    go_wp2_with fail
    go_ret
    exact ⟨rfl, hb1⟩
  by_cases h2 : a.length = b.length
  rotate_left
  · have hne : ((a.length : Int) != (b.length : Int)) = true := by rw [bne_iff_ne]; omega
    clear h2
    go_enter Try.func11, Try.ntmps11
    go_wp2_with fail
    refine (awake_any _).mono ?_
    rintro e w1 ⟨rfl, hb1⟩
    go_wp2_with fail
    go_ret
    exact ⟨rfl, hb1⟩
  by_cases h3 : a.length = c.length
  rotate_left
  · have hne : ((a.length : Int) != (c.length : Int)) = true := by rw [bne_iff_ne]; omega
    have hne2 : ((a.length : Int) != (b.length : Int)) = false := by simp; omega
    clear h3 h2
    go_enter Try.func11, Try.ntmps11
    go_wp2_with fail
    refine (awake_any _).mono ?_
    rintro e w1 ⟨rfl, hb1⟩
    go_wp2_with fail
    go_ret
    exact ⟨rfl, hb1⟩
  have hne : ((a.length : Int) != (b.length : Int)) = false := by simp; omega
  have hne2 : ((a.length : Int) != (c.length : Int)) = false := by simp; omega
  have H2 := Lib.hid h2
  have H3 := Lib.hid h3
  clear h2 h3
  have sx := sum_three H2.out H3.out
  have SX := Lib.hid sx
  clear sx
  have hsa := sum_lt a
  have hsb := sum_lt b
  have hsc := sum_lt c
  have x1 : bits BinOp.xor IntKind.u32 ((sum a : Nat) : Int) ((sum b : Nat) : Int) = ((sum a ^^^ sum b : Nat) : Int) := u32_xor _ _ hsa hsb
  obtain ⟨sab, Hsab⟩ : ∃ s, Hid (s = sum a ^^^ sum b) := ⟨_, Lib.hid rfl⟩
  rw [← Hsab.out] at x1
  have x2 : bits BinOp.xor IntKind.u32 (sab : Int) ((sum c : Nat) : Int) = ((sab ^^^ sum c : Nat) : Int) := u32_xor _ _ (by rw [Hsab.out]; exact Nat.xor_lt_two_pow (n := 32) hsa hsb) hsc
  obtain ⟨sabc, Hsabc⟩ : ∃ s, Hid (s = sab ^^^ sum c) := ⟨_, Lib.hid rfl⟩
  rw [← Hsabc.out] at x2
  have HS : Hid (sum (rowX (rowX a b) c) = sabc) := Lib.hid (by rw [SX.out, Hsabc.out, Hsab.out])
  go_enter Try.func11, Try.ntmps11
  go_wp2_with fail
  refine (awake_any _).mono ?_
  rintro e w1 ⟨rfl, hb1⟩
  go_wp2_with fail
  refine (copy_any _ _ _ _ (hra.below hb1) (by omega)).mono ?_
  rintro e w2 ⟨A2, c2, rfl, hown2, hb2⟩
  go_wp2_with fail
  have rda := hra.below hb1
  have rdb := hrb.below hb1
  have rdc := hrc.below hb1
  have own2 : Own w2 w1.heap.size A2 c2 a := hown2
  have b12 := bt hb1 hb2
  clear hown2 hra hrb hrc hne hne2
  have hz1 := hb1.size
  go_loopw [8] (fun i wr => ∃ (k : Nat) (L : List UInt8), k ≤ a.length ∧ i = .int .i64 k ∧ Hid (L = (rowX (rowX a b) c).take k ++ a.drop k) ∧ Hid (L.length = a.length) ∧ Own wr w1.heap.size A2 c2 L ∧ Below w1.heap.size w1 wr) (fun i _ => a.length - (intOf i).toNat)
  case atStart => exact ⟨0, a, Nat.zero_le _, rfl, Lib.hid (by simp), Lib.hid rfl, own2, hb2⟩
  case round =>
    obtain ⟨k, L, hk, rfl, HL, HLL, hown, hb⟩ := hrel
    by_cases hlt : k < a.length
    · have hlb : k < b.length := by rw [← H2.out]; exact hlt
      have hlc : k < c.length := by rw [← H3.out]; exact hlt
      have hkL : k < L.length := by rw [HLL.out]; exact hlt
      have hXl : (rowX (rowX a b) c).length = a.length := by
        have h4 : (rowX a b).length = a.length := rowX_length H2.out
        rw [rowX_length (by rw [h4, H3.out]), h4]
      have hXk : k < (rowX (rowX a b) c).length := by rw [hXl]; exact hlt
      have hXe : (rowX (rowX a b) c)[k] = a[k] ^^^ b[k] ^^^ c[k] := by simp [rowX]
      have hset : L.set k (a[k] ^^^ b[k] ^^^ c[k]) = (rowX (rowX a b) c).take (k + 1) ++ a.drop (k + 1) := by
        rw [HL.out, List.take_succ_eq_append_getElem hXk, hXe, List.drop_eq_getElem_cons hlt]
        have h5 : ((rowX (rowX a b) c).take k).length = k := by rw [List.length_take]; omega
        rw [List.set_append_right _ _ (by omega), h5, Nat.sub_self, List.set_cons_zero, List.append_assoc]
        rfl
      have HSET := Lib.hid hset
      clear hset hXl hXk hXe
      obtain ⟨b1, o1, rfl, hc1⟩ := (rda.below hb).at_ hlt
      obtain ⟨b2, o2, rfl, hc2⟩ := (rdb.below hb).at_ hlb
      obtain ⟨b3, o3, rfl, hc3⟩ := (rdc.below hb).at_ hlc
      rcases hown.form with ⟨_, _, e⟩ | ⟨g, rfl, hg, _, _, _⟩
      · rw [e] at hkL; simp at hkL
      have h1 := hc1 k hlt
      have h2 := hc2 k hlb
      have h3 := hc3 k hlc
      have h4 := hown.cell k hkL
      have hfz := hown.frozen k
      obtain ⟨x, Hx⟩ : ∃ x, Hid (x = a[k].toNat) := ⟨_, Lib.hid rfl⟩
      obtain ⟨y, Hy⟩ : ∃ y, Hid (y = b[k].toNat) := ⟨_, Lib.hid rfl⟩
      obtain ⟨z, Hz⟩ : ∃ z, Hid (z = c[k].toNat) := ⟨_, Lib.hid rfl⟩
      have hx : x < 256 := by rw [Hx.out]; exact a[k].toNat_lt
      have hy : y < 256 := by rw [Hy.out]; exact b[k].toNat_lt
      have hz : z < 256 := by rw [Hz.out]; exact c[k].toNat_lt
      obtain ⟨u, Hu⟩ : ∃ u, Hid (u = x ^^^ y) := ⟨_, Lib.hid rfl⟩
      have hu : u < 256 := by rw [Hu.out]; exact Nat.xor_lt_two_pow (n := 8) hx hy
      have e1 : bits BinOp.xor IntKind.u8 (x : Int) (y : Int) = (u : Int) := by rw [u8_xor _ _ hx hy, Hu.out]
      have e2 : bits BinOp.xor IntKind.u8 (u : Int) (z : Int) = ((a[k] ^^^ b[k] ^^^ c[k]).toNat : Int) := by
        rw [u8_xor _ _ hu hz, Hu.out, Hx.out, Hy.out, Hz.out, UInt8.toNat_xor, UInt8.toNat_xor]
      obtain ⟨v, Hv⟩ : ∃ v : UInt8, Hid (v = a[k] ^^^ b[k] ^^^ c[k]) := ⟨_, Lib.hid rfl⟩
      rw [← Hv.out] at e2
      rw [← Hx.out] at h1
      rw [← Hy.out] at h2
      rw [← Hz.out] at h3
      clear hc1 hc2 hc3
      go_wp2_with fail
      go_still_tail 17, (by kernel_rfl)
      change wpList _ _ _ _ _ wr.drew
      go_wp2_with fail
      go_roundw
      case measure => simp [intOf]; omega
      case rel =>
        refine ⟨k + 1, L.set k v, by omega, by go_num, Lib.hid (by rw [Hv.out, HSET.out]), Lib.hid (by rw [List.length_set, HLL.out]), ?_, ?_⟩
        · exact hown.set k v
        · have := hb.setCell (p := ⟨g, k, none⟩) hg (.int .u8 (v.toNat : Int))
          exact ⟨this.os, this.tape, this.output, this.size, this.block⟩
    · obtain rfl : k = a.length := by omega
      have hXl : (rowX (rowX a b) c).length = a.length := by
        have h4 : (rowX a b).length = a.length := rowX_length H2.out
        rw [rowX_length (by rw [h4, H3.out]), h4]
      have HLX : Hid (L = rowX (rowX a b) c) := Lib.hid (by
        have h5 := HL.out
        rw [← hXl, List.take_length, hXl, List.drop_length, List.append_nil] at h5
        exact h5)
      have HS2 : Hid (sum L = sabc) := Lib.hid (by rw [HLX.out, HS.out])
      clear hXl
      go_wp2_with fail
      refine (sum_any _ _ L _ _ hown.rd (by rw [HLL.out]; omega) HLL.out.symm).mono ?_
      rw [HS2.out]
      rintro e w4 ⟨rfl, hb4⟩
      have bb4 := bt hb hb4
      go_wp2_with fail
      refine (sum_any _ _ a _ _ (rda.below bb4) (by omega) rfl).mono ?_
      rintro e w5 ⟨rfl, hb5⟩
      have bb5 := bt bb4 hb5
      go_wp2_with fail
      refine (sum_any _ _ b _ _ (rdb.below bb5) (by have := H2.out; omega) rfl).mono ?_
      rintro e w6 ⟨rfl, hb6⟩
      have bb6 := bt bb5 hb6
      go_wp2_with fail
      refine (sum_any _ _ c _ _ (rdc.below bb6) (by have := H3.out; omega) rfl).mono ?_
      rintro e w7 ⟨rfl, hb7⟩
      have hfin : (((sabc : Nat) : Int) == ((sabc : Nat) : Int)) = true := by simp
      have hx3 : ((sab ^^^ sum c : Nat) : Int) = (sabc : Int) := by rw [Hsabc.out]
      go_wp2_with fail
      go_ret
      exact ⟨rfl, bt hb1 (bt bb6 hb7)⟩

set_option maxHeartbeats 1000000 in
theorem crcParts_walk (A : Option Addr) (ca : Nat) (a : List UInt8) (B : Option Addr) (cb : Nat) (b : List UInt8) (C : Option Addr) (cc : Nat) (c : List UInt8) (w : World) (hra : Rd w A a) (hca : a.length ≤ ca) (hma : ca ≤ maxLen)
    (hrb : Rd w B b) (hcb : b.length ≤ cb) (hmb : cb ≤ maxLen) (hrc : Rd w C c) (hcc : c.length ≤ cc) (hmc : cc ≤ maxLen) :
    Calls Try.prog 6 #[.slice A a.length ca, .slice B b.length cb, .slice C c.length cc] w (RetV w (.bool true)) := by
  have mm := le_maxLen
  have hq : (a.length ≤ 700 ∧ b.length ≤ 700 ∧ c.length ≤ 700) ∨ 700 < a.length ∨ (a.length ≤ 700 ∧ 700 < b.length) ∨ (a.length ≤ 700 ∧ b.length ≤ 700 ∧ 700 < c.length) := by omega
  rcases hq with ⟨ha, hb, hc⟩ | h | ⟨h, h'⟩ | ⟨h, h', h''⟩
  rotate_left
  all_goals try
    (go_enter Try.func6, Try.ntmps6
     go_wp2_with fail
     refine (awake_any _).mono ?_
     rintro e w1 ⟨rfl, hb1⟩
     go_wp2_with fail
     go_ret
     exact ⟨rfl, hb1⟩)
  have cE : ∀ k : Nat, k ≤ 1048576 → combE (k : Int) = 0 := fun k hk => by unfold combE; rw [if_neg (by omega)]
  have cN : ∀ (x y k : Nat), k ≤ 1048576 → combN x y (k : Int) = stn (8 * k) x ^^^ y := fun x y k hk => by unfold combN; rw [if_neg (by omega), Int.toNat_natCast]
  obtain ⟨sa, Hsa⟩ : ∃ s, Hid (s = sum a) := ⟨_, Lib.hid rfl⟩
  obtain ⟨sb, Hsb⟩ : ∃ s, Hid (s = sum b) := ⟨_, Lib.hid rfl⟩
  obtain ⟨sc, Hsc⟩ : ∃ s, Hid (s = sum c) := ⟨_, Lib.hid rfl⟩
  obtain ⟨s2, Hs2⟩ : ∃ s, Hid (s = sum (a ++ b)) := ⟨_, Lib.hid rfl⟩
  obtain ⟨s3, Hs3⟩ : ∃ s, Hid (s = sum (a ++ b ++ c)) := ⟨_, Lib.hid rfl⟩
  obtain ⟨sp, Hsp⟩ : ∃ s, Hid (s = sum (b ++ c)) := ⟨_, Lib.hid rfl⟩
  have la : sa < 4294967296 := by rw [Hsa.out]; exact sum_lt _
  have lb : sb < 4294967296 := by rw [Hsb.out]; exact sum_lt _
  have lc : sc < 4294967296 := by rw [Hsc.out]; exact sum_lt _
  have l2 : s2 < 4294967296 := by rw [Hs2.out]; exact sum_lt _
  have lp : sp < 4294967296 := by rw [Hsp.out]; exact sum_lt _
  have E1 : Hid (combN sa sb b.length = s2 ∧ combE b.length = 0) := Lib.hid ⟨by rw [cN _ _ _ (by omega), Hs2.out, sum_append, Hsa.out, Hsb.out], cE _ (by omega)⟩
  have E2 : Hid (combN s2 sc c.length = s3 ∧ combE c.length = 0) := Lib.hid ⟨by rw [cN _ _ _ (by omega), Hs3.out, sum_append, Hs2.out, Hsc.out], cE _ (by omega)⟩
  have E3 : Hid (combN sb sc c.length = sp) := Lib.hid (by rw [cN _ _ _ (by omega), Hsp.out, sum_append, Hsb.out, Hsc.out])
  have E4 : Hid (combN sa sp ((b.length : Int) + c.length) = s3 ∧ combE ((b.length : Int) + c.length) = 0) := Lib.hid (by
    rw [show (b.length : Int) + c.length = ((b.length + c.length : Nat) : Int) by omega]
    exact ⟨by rw [cN _ _ _ (by omega), Hs3.out, List.append_assoc, sum_append, Hsa.out, Hsp.out, List.length_append], cE _ (by omega)⟩)
  have E5 : Hid (ext sa b = s2) := Lib.hid (by rw [Hs2.out, Hsa.out]; exact (ext_append 0 a b).symm)
  have E6 : Hid (ext s2 c = s3) := Lib.hid (by rw [Hs3.out, Hs2.out]; exact (ext_append 0 (a ++ b) c).symm)
  clear cE cN
  go_enter Try.func6, Try.ntmps6
  go_wp2_with fail
  refine (awake_any _).mono ?_
  rintro e w1 ⟨rfl, hb1⟩
  have rda := hra.below hb1
  have rdb := hrb.below hb1
  have rdc := hrc.below hb1
  go_wp2_with fail
  refine (copy_any _ _ _ _ rda (by omega)).mono ?_
  rintro e w2 ⟨A2, c2, rfl, hown2, hb2⟩
  go_wp2_with (at_builtin; refine wpList_append_bytes _ rfl _ _ rfl w1.heap.size A2 a.length c2 a rfl rfl hown2 B b.length cb b rfl rfl (rdb.below hb2) (by omega) hb2.size ?_; intro A3 c3 w3 hown3 hb3 _)
  clear hown2
  refine (copy_n _ _ (a ++ b) _ _ hown3.rd (by simp; omega) (by simp)).mono ?_
  rintro e w4 ⟨A4, c4, rfl, hown4, hb4⟩
  have b4 := bt (hb2.trans hb3) hb4
  go_wp2_with (at_builtin; refine wpList_append_bytes _ rfl _ _ rfl w3.heap.size A4 (a.length + b.length) c4 (a ++ b) rfl (by simp) hown4 C c.length cc c rfl rfl (rdc.below b4) (by simp; omega) hb4.size ?_; intro A5 c5 w5 hown5 hb5 _)
  have b35 : Below w3.heap.size w3 w5 := hb4.trans hb5
  have b15 : Below w1.heap.size w1 w5 := bt (hb2.trans hb3) b35
  have r2 : Rd w5 A3 (a ++ b) := hown3.rd.below b35
  have r3 : Rd w5 A5 (a ++ b ++ c) := hown5.rd
  have ra := rda.below b15
  have rb := rdb.below b15
  have rc := rdc.below b15
  have bw := bt hb1 b15
  clear hown3 hown4 hown5 hb1 hb2 hb3 hb4 hb5 b4 b15 b35 rda rdb rdc hra hrb hrc
  go_wp2_with fail
  refine (sum_any _ _ (a ++ b ++ c) _ _ (r3) (by simp; omega) (by simp)).mono ?_
  rw [← Hs3.out]
  rintro e w6 ⟨rfl, q6⟩
  go_wp2_with fail
  refine (sum_any _ _ (a) _ _ (ra.below (q6)) (by omega) rfl).mono ?_
  rw [← Hsa.out]
  rintro e w7 ⟨rfl, q7⟩
  go_wp2_with fail
  refine (sum_any _ _ (b) _ _ (rb.below (bt (q6) q7)) (by omega) rfl).mono ?_
  rw [← Hsb.out]
  rintro e w8 ⟨rfl, q8⟩
  go_wp2_with fail
  refine (combine_any sa sb _ _ la lb).mono ?_
  rw [E1.out.1, E1.out.2]
  rintro e _ ⟨rfl, rfl⟩
  go_wp2_with fail
  refine (sum_any _ _ (c) _ _ (rc.below (bt (bt (q6) q7) q8)) (by omega) rfl).mono ?_
  rw [← Hsc.out]
  rintro e w9 ⟨rfl, q9⟩
  go_wp2_with fail
  refine (combine_any s2 sc _ _ l2 lc).mono ?_
  rw [E2.out.1, E2.out.2]
  rintro e _ ⟨rfl, rfl⟩
  go_wp2_with fail
  refine (sum_any _ _ (b) _ _ (rb.below (bt (bt (bt (q6) q7) q8) q9)) (by omega) rfl).mono ?_
  rw [← Hsb.out]
  rintro e w10 ⟨rfl, q10⟩
  go_wp2_with fail
  refine (sum_any _ _ (c) _ _ (rc.below (bt (bt (bt (bt (q6) q7) q8) q9) q10)) (by omega) rfl).mono ?_
  rw [← Hsc.out]
  rintro e w11 ⟨rfl, q11⟩
  go_wp2_with fail
  refine (combine_any sb sc _ _ lb lc).mono ?_
  rw [E3.out, E2.out.2]
  rintro e _ ⟨rfl, rfl⟩
  go_wp2_with fail
  refine (sum_any _ _ (a) _ _ (ra.below (bt (bt (bt (bt (bt (q6) q7) q8) q9) q10) q11)) (by omega) rfl).mono ?_
  rw [← Hsa.out]
  rintro e w12 ⟨rfl, q12⟩
  go_wp2_with fail
  refine (combine_any sa sp _ _ la lp).mono ?_
  rw [E4.out.1, E4.out.2]
  rintro e _ ⟨rfl, rfl⟩
  go_wp2_with fail
  refine (sum_any _ _ (a ++ b) _ _ (r2.below (bt (bt (bt (bt (bt (bt (q6) q7) q8) q9) q10) q11) q12)) (by simp; omega) (by simp)).mono ?_
  rw [← Hs2.out]
  rintro e w13 ⟨rfl, q13⟩
  go_wp2_with fail
  refine (sum_any _ _ (a) _ _ (ra.below (bt (bt (bt (bt (bt (bt (bt (q6) q7) q8) q9) q10) q11) q12) q13)) (by omega) rfl).mono ?_
  rw [← Hsa.out]
  rintro e w14 ⟨rfl, q14⟩
  go_wp2_with fail
  refine (extend_any sa _ _ b _ _ la (rb.below (bt (bt (bt (bt (bt (bt (bt (bt (q6) q7) q8) q9) q10) q11) q12) q13) q14)) (by omega) rfl).mono ?_
  rw [E5.out]
  rintro e w15 ⟨rfl, q15⟩
  go_wp2_with fail
  refine (extend_any s2 _ _ c _ _ l2 (rc.below (bt (bt (bt (bt (bt (bt (bt (bt (bt (q6) q7) q8) q9) q10) q11) q12) q13) q14) q15)) (by omega) rfl).mono ?_
  rw [E6.out]
  rintro e w16 ⟨rfl, q16⟩
  go_wp2_with fail
  go_ret
  exact ⟨rfl, bt bw (bt (bt (bt (bt (bt (bt (bt (bt (bt (bt (q6) q7) q8) q9) q10) q11) q12) q13) q14) q15) q16)⟩
end Go.Proofs.Ytolkdmelmpfmoaa
