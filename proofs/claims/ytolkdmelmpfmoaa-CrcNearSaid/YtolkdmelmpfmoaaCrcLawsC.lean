/-
  THE WALKS OF THE LAWS ON SUMS: few bits, near bits.
-/
import Derived.Test.YtolkdmelmpfmoaaCrcLawsB
namespace Go.Proofs.Ytolkdmelmpfmoaa
open Go.RowKit
set_option linter.unusedVariables false

theorem u64_tmod (x : Int) (m : Int) (hm : 0 < m) : ∃ k : Nat, (IntKind.u64.wrap x).tmod m = k ∧ (k : Int) < m := by
  have h0 : 0 ≤ IntKind.u64.wrap x := by
    simp only [IntKind.wrap_u64]
    omega
  rw [Int.tmod_eq_emod_of_nonneg h0]
  have h1 := Int.emod_nonneg (IntKind.u64.wrap x) (show m ≠ 0 by omega)
  have h2 := Int.emod_lt_of_pos (IntKind.u64.wrap x) hm
  exact ⟨(IntKind.u64.wrap x % m).toNat, by omega, by omega⟩

theorem toggle_twice (l : List UInt8) (p : Nat) (h : p < 8 * l.length) : toggle (toggle l p) p = l := by
  have hk : p / 8 < l.length := by omega
  unfold toggle
  rw [List.set_set]
  have e : (l.set (p / 8) (l.getD (p / 8) 0 ^^^ UInt8.ofNat (2 ^ (p % 8)))).getD (p / 8) 0 = l.getD (p / 8) 0 ^^^ UInt8.ofNat (2 ^ (p % 8)) := by
    simp [List.getD_eq_getElem?_getD, hk]
  rw [e, UInt8.xor_assoc, UInt8.xor_self, UInt8.xor_zero]
  simp [List.getD_eq_getElem?_getD, hk]
theorem toggle_set (C : List UInt8) (p : Nat) (h : p / 8 < C.length) : toggle C p = C.set (p / 8) (C[p / 8] ^^^ UInt8.ofNat (2 ^ (p % 8))) := by
  unfold toggle
  rw [List.getD_eq_getElem?_getD, List.getElem?_eq_getElem h]
  rfl
theorem toggle_val (C : List UInt8) (p : Nat) (h : p / 8 < C.length) : bits BinOp.xor IntKind.u8 ((C[p / 8].toNat : Nat) : Int) (2 ^ (p % 8) % 256) = ((C[p / 8] ^^^ UInt8.ofNat (2 ^ (p % 8))).toNat : Int) := by
  have h2 : 2 ^ (p % 8) < 256 := Nat.lt_of_lt_of_le (Nat.pow_lt_pow_right (a := 2) (by omega) (show p % 8 < 8 by omega)) (by omega)
  have h3 : (2 : Int) ^ (p % 8) % 256 = ((2 ^ (p % 8) : Nat) : Int) := by
    have e : ((2 ^ (p % 8) : Nat) : Int) = (2 : Int) ^ (p % 8) := by rw [Int.natCast_pow]; rfl
    have h4 : ∀ z : Nat, z < 256 → (z : Int) % 256 = z := by intro z hz; omega
    rw [← e, h4 _ h2]
  rw [h3, u8_xor _ _ C[p / 8].toNat_lt h2, UInt8.toNat_xor, UInt8.toNat_ofNat', Nat.mod_eq_of_lt h2]
theorem toggles_length (ps : List Nat) (b : List UInt8) : (ps.foldl toggle b).length = b.length := by
  induction ps generalizing b with
  | nil => rfl
  | cons p ps ih => rw [List.foldl_cons, ih, toggle_length]
theorem stn_one_lt (k : Nat) : stn k 1 < 4294967296 := stn_lt k (by omega)
theorem stn_one_odd (k : Nat) : popk 32 (stn k 1) % 2 = 1 := by
  rw [popk_stn k (by omega)]
  decide
/-- rows with at most three bits turned about: the sums are the same only if the rows are -/
theorem few (b : List UInt8) (ps : List Nat) (hl : ps.length ≤ 3) (hp : ∀ p ∈ ps, p < 8 * b.length) (hb : b.length ≤ 1500) (h : sum (ps.foldl toggle b) = sum b) : b = ps.foldl toggle b := by
  rcases ps with _ | ⟨p, _ | ⟨q, _ | ⟨r, _ | ⟨s, t⟩⟩⟩⟩
  · rfl
  · have h1 := hp p (by simp)
    simp only [List.foldl_cons, List.foldl_nil] at h ⊢
    rw [sum_toggle _ _ h1] at h
    have h2 : stn (8 * b.length - p) 1 = 0 := by
      have := congrArg (fun x => sum b ^^^ x) h
      simpa [xor_cancel] using this
    exact absurd h2 stn_one_ne
  · have h1 := hp p (by simp)
    have h2 := hp q (by simp)
    simp only [List.foldl_cons, List.foldl_nil] at h ⊢
    by_cases e : p = q
    · subst e
      rw [toggle_twice b p h1]
    · rw [sum_toggle _ _ (by rw [toggle_length]; exact h2), sum_toggle _ _ h1, toggle_length, Nat.xor_assoc] at h
      have h3 : stn (8 * b.length - p) 1 ^^^ stn (8 * b.length - q) 1 = 0 := by
        have := congrArg (fun x => sum b ^^^ x) h
        simpa [xor_cancel] using this
      exact absurd (xor_eq_zero' h3) (two_ne h1 h2 (by omega) e)
  · have h1 := hp p (by simp)
    have h2 := hp q (by simp)
    have h3 := hp r (by simp)
    simp only [List.foldl_cons, List.foldl_nil] at h ⊢
    rw [sum_toggle _ _ (by rw [toggle_length, toggle_length]; exact h3), sum_toggle _ _ (by rw [toggle_length]; exact h2), sum_toggle _ _ h1, toggle_length, toggle_length, toggle_length, Nat.xor_assoc, Nat.xor_assoc] at h
    have h4 : stn (8 * b.length - p) 1 ^^^ (stn (8 * b.length - q) 1 ^^^ stn (8 * b.length - r) 1) = 0 := by
      have := congrArg (fun x => sum b ^^^ x) h
      simpa [xor_cancel] using this
    have h5 := congrArg (fun x => popk 32 x % 2) h4
    simp only [popk_xor] at h5
    have e1 := stn_one_odd (8 * b.length - p)
    have e2 := popk_xor 32 (stn (8 * b.length - q) 1) (stn (8 * b.length - r) 1)
    have e3 := stn_one_odd (8 * b.length - q)
    have e4 := stn_one_odd (8 * b.length - r)
    have e5 : popk 32 0 = 0 := by decide
    omega
  · simp at hl

set_option maxHeartbeats 1000000 in
theorem crcFew_walk (B : Option Addr) (cb : Nat) (b : List UInt8) (i j k : Int) (w : World) (hr : Rd w B b) (hc : b.length ≤ cb) (hm : cb ≤ maxLen) (i0 : -9223372036854775808 ≤ i) (i1 : i ≤ 9223372036854775807) (j0 : -9223372036854775808 ≤ j) (j1 : j ≤ 9223372036854775807) (k0 : -9223372036854775808 ≤ k) (k1 : k ≤ 9223372036854775807) :
    Calls Try.prog 8 #[.slice B b.length cb, .int .i64 i, .int .i64 j, .int .i64 k] w (RetV w (.bool true)) := by
  have mm := le_maxLen
  by_cases h1 : b.length = 0
  · have hz : ((b.length : Int) == 0) = true := by rw [beq_iff_eq]; omega
    clear h1
    go_enter Try.func8, Try.ntmps8
    go_wp2_with fail
    refine (awake_any _).mono ?_
    rintro e w1 ⟨rfl, hb1⟩
    go_wp2_with fail
    go_ret
    exact ⟨rfl, hb1⟩
  have hz : ((b.length : Int) == 0) = false := by rw [beq_eq_false_iff_ne]; omega
  have hpos : 0 < b.length := by omega
  clear h1
  by_cases h2 : 1500 < b.length
  · go_enter Try.func8, Try.ntmps8
    go_wp2_with fail
    refine (awake_any _).mono ?_
    rintro e w1 ⟨rfl, hb1⟩
    go_wp2_with fail
    go_ret
    exact ⟨rfl, hb1⟩
  obtain ⟨f, hf⟩ : ∃ f : Nat → Int, ∀ (w : World) (m : Nat), m < 3 → (w.alloc (.cells #[.int .i64 i, .int .i64 j, .int .i64 k] 3)).cell? ⟨w.heap.size, m, none⟩ = some (.int .i64 (f m)) := by
    refine ⟨fun m => if m = 0 then i else if m = 1 then j else k, fun w m hm => ?_⟩
    rw [cell_of_row _ _ _ _ _ _ (heap_alloc_new w _)]
    have : m = 0 ∨ m = 1 ∨ m = 2 := by omega
    rcases this with rfl | rfl | rfl <;> rfl
  clear i0 i1 j0 j1 k0 k1
  have HF := Lib.hid hf
  clear hf
  go_enter Try.func8, Try.ntmps8
  go_wp2_with fail
  refine (awake_any _).mono ?_
  rintro e w1 ⟨rfl, hb1⟩
  go_wp2_with fail
  refine (copy_any _ _ _ _ (hr.below hb1) (by omega)).mono ?_
  rintro e w2 ⟨A2, c2, rfl, hown2, hb2⟩
  rcases hown2.form with ⟨_, _, e⟩ | ⟨g, rfl, hg, hg2, _, _⟩
  · rw [e] at hpos; simp at hpos
  go_wp2_with fail
  have hcl : ∀ m, m < 3 → (w2.alloc (.cells #[.int .i64 i, .int .i64 j, .int .i64 k] 3)).cell? ⟨w2.heap.size, m, none⟩ = some (.int .i64 (f m)) := HF.out w2
  have own3 := hown2.alloc (.cells #[.int .i64 i, .int .i64 j, .int .i64 k] 3)
  have b13 := hb2.alloc hb2.size (.cells #[.int .i64 i, .int .i64 j, .int .i64 k] 3)
  obtain ⟨gl, Hgl⟩ : ∃ gl, Hid (gl = w2.heap.size) := ⟨_, Lib.hid rfl⟩
  have hggl : g < gl := by rw [Hgl.out]; exact hg2
  rw [← Hgl.out] at hcl ⊢
  generalize w2.alloc (.cells #[.int .i64 i, .int .i64 j, .int .i64 k] 3) = W at hcl own3 b13 ⊢
  have HCL := Lib.hid hcl
  have rdb := hr.below hb1
  have hz1 := hb1.size
  clear hcl hown2 hb2 hg2 hr
  go_loopw [11] (fun n wr => ∃ (m : Nat) (C : List UInt8) (ps : List Nat), m ≤ 3 ∧ n = .int .i64 m ∧ Hid (C.length = b.length) ∧ Hid (ps.length = m) ∧ Hid (∀ p ∈ ps, p < 8 * b.length) ∧ Hid (C = ps.foldl toggle b) ∧ Own wr w1.heap.size (some ⟨g, 0, none⟩) c2 C ∧ Below w1.heap.size w1 wr ∧ Hid (∀ m, m < 3 → wr.cell? ⟨gl, m, none⟩ = some (.int .i64 (f m)))) (fun n _ => 3 - (intOf n).toNat)
  case atStart => exact ⟨0, b, [], by omega, rfl, Lib.hid rfl, Lib.hid rfl, Lib.hid (by simp), Lib.hid rfl, own3, b13, HCL⟩
  case round =>
    obtain ⟨m, C, ps, hm3, rfl, HCl, Hpl, Hp, HC, hown, hb, HCC⟩ := hrel
    by_cases hlt : m < 3
    · have hcellm := HCC.out m hlt
      obtain ⟨p, hp, hp2⟩ := u64_tmod (f m) (8 * (b.length : Int)) (by omega)
      have hpl : p < 8 * b.length := by omega
      have hpC : p / 8 < C.length := by rw [HCl.out]; omega
      have hcell := hown.cell (p / 8) hpC
      have hfz := hown.frozen (p / 8)
      obtain ⟨y, Hy⟩ : ∃ y, Hid (y = C[p / 8].toNat) := ⟨_, Lib.hid rfl⟩
      have hy : y < 256 := by rw [Hy.out]; exact C[p / 8].toNat_lt
      rw [← Hy.out] at hcell
      have ex : bits BinOp.xor IntKind.u8 (y : Int) (2 ^ (p % 8) % 256) = ((C[p / 8] ^^^ UInt8.ofNat (2 ^ (p % 8))).toNat : Int) := by rw [Hy.out]; exact toggle_val C p hpC
      obtain ⟨v, Hv⟩ : ∃ v : UInt8, Hid (v = C[p / 8] ^^^ UInt8.ofNat (2 ^ (p % 8))) := ⟨_, Lib.hid rfl⟩
      rw [← Hv.out] at ex
      have own2 : Own (wr.setCell ⟨g, p / 8, none⟩ (.int .u8 (v.toNat : Int))) w1.heap.size (some ⟨g, 0, none⟩) c2 (toggle C p) := by
        rw [toggle_set C p hpC, ← Hv.out]
        exact hown.set (p / 8) v
      have hb2 := hb.setCell (p := ⟨g, p / 8, none⟩) hg (.int .u8 (v.toNat : Int))
      have HC2 : Hid (toggle C p = (ps ++ [p]).foldl toggle b) := Lib.hid (by rw [List.foldl_append, ← HC.out]; rfl)
      have Hp2 : Hid (∀ q ∈ ps ++ [p], q < 8 * b.length) := Lib.hid (by
        intro q hq
        rcases List.mem_append.1 hq with h | h
        · exact Hp.out q h
        · simp at h; omega)
      have Hpl2 : Hid ((ps ++ [p]).length = m + 1) := Lib.hid (by rw [List.length_append, Hpl.out]; rfl)
      have HCl2 : Hid ((toggle C p).length = b.length) := Lib.hid (by rw [toggle_length, HCl.out])
      have hfew := few b (ps ++ [p]) (by rw [Hpl2.out]; omega) Hp2.out (by omega)
      rw [← HC2.out] at hfew
      have hne : (((sum (toggle C p) : Nat) : Int) == ((sum b : Nat) : Int)) = (turned b (toggle C p) == 0) := by
        rw [Bool.eq_iff_iff, beq_iff_eq, beq_iff_eq, turned_zero HCl2.out.symm]
        constructor
        · intro h; exact hfew (by omega)
        · intro h; rw [← h]
      have HNE := Lib.hid hne
      have HCC2 : Hid (∀ m, m < 3 → (wr.setCell ⟨g, p / 8, none⟩ (.int .u8 (v.toNat : Int))).cell? ⟨gl, m, none⟩ = some (.int .i64 (f m))) := Lib.hid (by
        intro m hm
        rw [World.cell?_setCell_other _ _ _ _ (by intro e; injection e with e1; omega)]
        exact HCC.out m hm)
      clear hne hfew
      obtain ⟨D, HD⟩ : ∃ D, Hid (D = toggle C p) := ⟨_, Lib.hid rfl⟩
      rw [← HD.out] at own2 HC2 HCl2 HNE
      obtain ⟨t, Ht⟩ : ∃ t : Nat, Hid (turned b D = t) := ⟨popL (rowX b D), Lib.hid (by unfold turned; rw [if_pos HCl2.out.symm])⟩
      obtain ⟨s1, Hs1⟩ : ∃ s, Hid (s = sum D) := ⟨_, Lib.hid rfl⟩
      obtain ⟨s2, Hs2⟩ : ∃ s, Hid (s = sum b) := ⟨_, Lib.hid rfl⟩
      rw [← Hs1.out, ← Hs2.out, Ht.out] at HNE
      go_wp2_with fail
      refine (sum_any _ _ D _ _ own2.rd (by rw [HCl2.out]; omega) HCl2.out.symm).mono ?_
      rw [← Hs1.out]
      rintro e w5 ⟨rfl, hb5⟩
      have bb5 := bt hb2 hb5
      go_wp2_with fail
      refine (sum_any _ _ b _ _ (rdb.below bb5) (by omega) rfl).mono ?_
      rw [← Hs2.out]
      rintro e w6 ⟨rfl, hb6⟩
      have bb6 := bt bb5 hb6
      go_wp2_with fail
      have htt := turned_any B (some ⟨g, 0, none⟩) cb c2 b D w6 (rdb.below bb6) (own2.rd.below (bt hb5 hb6)) (by omega) (by rw [HCl2.out]; omega)
      rw [HCl2.out] at htt
      refine htt.mono ?_
      clear htt
      rw [Ht.out]
      rintro e w7 ⟨rfl, rfl⟩
      have hfin : ((((s1 : Nat) : Int) == ((s2 : Nat) : Int)) == (((t : Nat) : Int) == 0)) = true := by rw [HNE.out]; simp
      go_wp2_with fail
      go_roundw
      case measure => simp [intOf]; omega
      case rel =>
        refine ⟨m + 1, D, ps ++ [p], by omega, by go_num, HCl2, Hpl2, Hp2, HC2, own2.below (bt hb5 hb6), bb6, Lib.hid ?_⟩
        intro q hq
        have h1 := HCC2.out q hq
        have h2 := (bt hb5 hb6).cell (p := ⟨gl, q, none⟩) (World.block_lt_of_cell? _ _ h1)
        exact h2.trans h1
    · go_wp2_with fail
      go_ret
      exact ⟨rfl, bt hb1 hb⟩

set_option maxHeartbeats 1000000 in
theorem crcNear_walk (B : Option Addr) (cb : Nat) (b : List UInt8) (i : Int) (wh : Nat) (w : World) (hr : Rd w B b) (hc : b.length ≤ cb) (hm : cb ≤ maxLen) (i0 : -9223372036854775808 ≤ i) (i1 : i ≤ 9223372036854775807) (hwh : wh < 2 ^ 32) :
    Calls Try.prog 9 #[.slice B b.length cb, .int .i64 i, .int .u32 wh] w (RetV w (.bool true)) := by
  have mm := le_maxLen
  by_cases h1 : b.length < 4
  · go_enter Try.func9, Try.ntmps9
    go_wp2_with fail
    refine (awake_any _).mono ?_
    rintro e w1 ⟨rfl, hb1⟩
    go_wp2_with fail
    go_ret
    exact ⟨rfl, hb1⟩
  by_cases h2 : 1500 < b.length
  · go_enter Try.func9, Try.ntmps9
    go_wp2_with fail
    refine (awake_any _).mono ?_
    rintro e w1 ⟨rfl, hb1⟩
    go_wp2_with fail
    go_ret
    exact ⟨rfl, hb1⟩
  by_cases h3 : wh = 0
  · have hz : ((wh : Int) == 0) = true := by rw [beq_iff_eq]; omega
    clear h3
    go_enter Try.func9, Try.ntmps9
    go_wp2_with fail
    refine (awake_any _).mono ?_
    rintro e w1 ⟨rfl, hb1⟩
    go_wp2_with fail
    go_ret
    exact ⟨rfl, hb1⟩
  have hz : ((wh : Int) == 0) = false := by rw [beq_eq_false_iff_ne]; omega
  have hwh' : wh < 4294967296 := hwh
  obtain ⟨fr, hfr, hfr2⟩ := u64_tmod i (8 * (b.length : Int) - 31) (by omega)
  have hfl : fr + 31 < 8 * b.length := by omega
  have H3 := Lib.hid h3
  clear h3 hwh i0 i1
  go_enter Try.func9, Try.ntmps9
  go_wp2_with fail
  refine (awake_any _).mono ?_
  rintro e w1 ⟨rfl, hb1⟩
  go_wp2_with fail
  refine (copy_any _ _ _ _ (hr.below hb1) (by omega)).mono ?_
  rintro e w2 ⟨A2, c2, rfl, hown2, hb2⟩
  rcases hown2.form with ⟨_, _, e⟩ | ⟨g, rfl, hg, hg2, _, _⟩
  · rw [e] at h1; simp at h1
  go_wp2_with fail
  have rdb := hr.below hb1
  have hz1 := hb1.size
  clear hfr hg2 hr
  go_loopw [8] (fun n wr => ∃ (m : Nat) (C : List UInt8), m ≤ 32 ∧ n = .int .i64 m ∧ Hid (C.length = b.length) ∧ Hid (sum C = sum b ^^^ stn (8 * b.length - fr - 32) (stn 32 (wh % 2 ^ m))) ∧ Own wr w1.heap.size (some ⟨g, 0, none⟩) c2 C ∧ Below w1.heap.size w1 wr) (fun n _ => 32 - (intOf n).toNat)
  case atStart => exact ⟨0, b, by omega, rfl, Lib.hid rfl, Lib.hid (by rw [Nat.pow_zero, Nat.mod_one, stn_zero, stn_zero, Nat.xor_zero]), hown2, hb2⟩
  case round =>
    obtain ⟨m, C, hm3, rfl, HCl, HC, hown, hb⟩ := hrel
    by_cases hlt : m < 32
    · obtain ⟨q, Hq⟩ : ∃ q, Hid (q = wh / 2 ^ m % 2) := ⟨_, Lib.hid rfl⟩
      have ea : bits BinOp.and IntKind.u32 ((wh : Int) / 2 ^ m) 1 = (q : Int) := by
        have h5 : (wh : Int) / 2 ^ m = ((wh / 2 ^ m : Nat) : Int) := by simp
        have h6 : wh / 2 ^ m ≤ wh := Nat.div_le_self _ _
        rw [h5, show (1 : Int) = ((1 : Nat) : Int) from rfl, u32_and _ _ (by omega) (by omega), show (1 : Nat) = 2 ^ 1 - 1 from rfl, Nat.and_two_pow_sub_one_eq_mod, Hq.out]
      have Htb : Hid (wh.testBit m = decide (q = 1)) := Lib.hid (by rw [Nat.testBit_eq_decide_div_mod_eq, Hq.out])
      have HM : Hid (wh % 2 ^ (m + 1) = (wh % 2 ^ m) ^^^ (if q = 1 then 2 ^ m else 0)) := Lib.hid (by
        rw [mod_succ_bit, Htb.out]
        simp)
      by_cases hq1 : q = 1
      · have hqb : ((q : Int) == 1) = true := by rw [beq_iff_eq]; omega
        have hpl : fr + m < 8 * b.length := by omega
        have hpC : (fr + m) / 8 < C.length := by rw [HCl.out]; omega
        have hcell := hown.cell ((fr + m) / 8) hpC
        have hfz := hown.frozen ((fr + m) / 8)
        obtain ⟨y, Hy⟩ : ∃ y, Hid (y = C[(fr + m) / 8].toNat) := ⟨_, Lib.hid rfl⟩
        have hy : y < 256 := by rw [Hy.out]; exact C[(fr + m) / 8].toNat_lt
        rw [← Hy.out] at hcell
        have ex : bits BinOp.xor IntKind.u8 (y : Int) (2 ^ ((fr + m) % 8) % 256) = ((C[(fr + m) / 8] ^^^ UInt8.ofNat (2 ^ ((fr + m) % 8))).toNat : Int) := by rw [Hy.out]; exact toggle_val C (fr + m) hpC
        obtain ⟨v, Hv⟩ : ∃ v : UInt8, Hid (v = C[(fr + m) / 8] ^^^ UInt8.ofNat (2 ^ ((fr + m) % 8))) := ⟨_, Lib.hid rfl⟩
        rw [← Hv.out] at ex
        have own2 : Own (wr.setCell ⟨g, (fr + m) / 8, none⟩ (.int .u8 (v.toNat : Int))) w1.heap.size (some ⟨g, 0, none⟩) c2 (toggle C (fr + m)) := by
          rw [toggle_set C (fr + m) hpC, ← Hv.out]
          exact hown.set ((fr + m) / 8) v
        have hb3 := hb.setCell (p := ⟨g, (fr + m) / 8, none⟩) hg (.int .u8 (v.toNat : Int))
        have HCl2 : Hid ((toggle C (fr + m)).length = b.length) := Lib.hid (by rw [toggle_length, HCl.out])
        have HC2 : Hid (sum (toggle C (fr + m)) = sum b ^^^ stn (8 * b.length - fr - 32) (stn 32 (wh % 2 ^ (m + 1)))) := Lib.hid (by
          rw [sum_toggle C (fr + m) (by rw [HCl.out]; exact hpl), HC.out, HM.out, if_pos hq1, stn_xor, stn_xor, Nat.xor_assoc, HCl.out, pow_stn (by omega)]
          have h8 : stn (8 * b.length - fr - 32) (stn (32 - m) 1) = stn (8 * b.length - (fr + m)) 1 := by
            rw [← stn_add, show 32 - m + (8 * b.length - fr - 32) = 8 * b.length - (fr + m) by omega]
          rw [h8])
        clear hq1
        go_wp2_with fail
        go_roundw
        case measure => simp [intOf]; omega
        case rel => exact ⟨m + 1, toggle C (fr + m), by omega, by go_num, HCl2, HC2, own2, hb3⟩
      · have hqb : ((q : Int) == 1) = false := by rw [beq_eq_false_iff_ne]; omega
        have HC2 : Hid (sum C = sum b ^^^ stn (8 * b.length - fr - 32) (stn 32 (wh % 2 ^ (m + 1)))) := Lib.hid (by
          rw [HM.out, if_neg hq1, Nat.xor_zero, HC.out])
        clear hq1
        go_wp2_with fail
        go_roundw
        case measure => simp [intOf]; omega
        case rel => exact ⟨m + 1, C, by omega, by go_num, HCl, HC2, hown, hb⟩
    · obtain rfl : m = 32 := by omega
      have hne : (((sum b : Nat) : Int) != ((sum C : Nat) : Int)) = true := by
        rw [bne_iff_ne]
        intro e
        have e2 : sum b = sum C := by omega
        have h5 := HC.out
        rw [← e2, Nat.mod_eq_of_lt (show wh < 2 ^ 32 from hwh')] at h5
        have h6 : stn (8 * b.length - fr - 32) (stn 32 wh) = 0 := by
          have := congrArg (fun x => sum b ^^^ x) h5
          simp only [Nat.xor_self, xor_cancel] at this
          exact this.symm
        rw [← stn_add] at h6
        exact H3.out (stn_eq_zero hwh' h6)
      obtain ⟨s1, Hs1⟩ : ∃ s, Hid (s = sum C) := ⟨_, Lib.hid rfl⟩
      obtain ⟨s2, Hs2⟩ : ∃ s, Hid (s = sum b) := ⟨_, Lib.hid rfl⟩
      rw [← Hs1.out, ← Hs2.out] at hne
      go_wp2_with fail
      refine (sum_any _ _ b _ _ (rdb.below hb) (by omega) rfl).mono ?_
      rw [← Hs2.out]
      rintro e w6 ⟨rfl, hb6⟩
      go_wp2_with fail
      refine (sum_any _ _ C _ _ (hown.rd.below hb6) (by rw [HCl.out]; omega) HCl.out.symm).mono ?_
      rw [← Hs1.out]
      rintro e w7 ⟨rfl, hb7⟩
      go_wp2_with fail
      go_ret
      exact ⟨rfl, bt hb1 (bt (bt hb hb6) hb7)⟩
end Go.Proofs.Ytolkdmelmpfmoaa
