/-
  PLAIN: what is sealed is good; good frames of one length have one sum; few bits.
-/
import Derived.Test.YtahfippapknolaaDoorFramePlainC
import Derived.Test.YtahfippapknolaaDoorBits
namespace Go.Proofs.YtahfippapknolaaDoor

theorem frm_form (o l : List UInt8) (n : Nat) (h2 : l.length < 65536) : ∃ tl, frmL n o l = leB 2 l.length ++ (o ++ (l ++ tl)) := by
  unfold frmL padL preL
  rw [putL_two (by omega) (by omega), Int.toNat_natCast]
  simp only [List.append_assoc]
  exact ⟨_, rfl⟩
theorem frm_parts (o l : List UInt8) (n : Nat) (ho : o.length = 15) (h2 : l.length < 65536) : frT (frmL n o l) = o ∧ frN (frmL n o l) = l.length ∧ ((frmL n o l).drop 17).take l.length = l := by
  obtain ⟨tl, hx⟩ := frm_form o l n h2
  rw [hx]
  refine ⟨?_, ?_, ?_⟩
  · unfold frT
    rw [List.drop_left' (leB_length _ _), List.take_left' ho]
  · unfold frN
    rw [List.take_left' (leB_length _ _), leN_leB, Nat.mod_eq_of_lt (by simpa using h2)]
  · rw [← List.append_assoc, List.drop_left' (by rw [List.length_append, leB_length, ho]), List.take_left' rfl]
theorem zeroB_cut {l : List UInt8} (h : zeroB l = true) (i n : Nat) : zeroB ((l.drop i).take n) = true := by
  rw [zeroB_iff] at h ⊢
  intro k hk
  rw [List.getElem_take, List.getElem_drop]
  exact h _ _
theorem frm_good {rp rg pl ix ic : Int} (hm : mayB rp rg pl ix ic = true) {l : List UInt8} {n : Nat} (hn : (n = 64 ∧ l.length ≤ 43) ∨ (n = 128 ∧ l.length ≤ 88)) :
    (frmL n (tagL rp rg pl ix ic) l).length = n ∧ frG (frmL n (tagL rp rg pl ix ic) l) = true ∧ frT (frmL n (tagL rp rg pl ix ic) l) = tagL rp rg pl ix ic ∧ frN (frmL n (tagL rp rg pl ix ic) l) = l.length ∧ ((frmL n (tagL rp rg pl ix ic) l).drop 17).take l.length = l := by
  have ho : (tagL rp rg pl ix ic).length = 15 := by rw [tagL_length, hm]; rfl
  have h2 : l.length < 65536 := by omega
  have hlen := frmL_length n (tagL rp rg pl ix ic) l ho (by omega) h2
  obtain ⟨hT, hN, hB⟩ := frm_parts (tagL rp rg pl ix ic) l n ho h2
  obtain ⟨t0, t1, t2, t3, t4, t5⟩ := tag_parse_print hm
  have hb := mayB_true hm
  have hz : zeroB (frmL n (tagL rp rg pl ix ic) l) = false := by
    cases e : zeroB (frmL n (tagL rp rg pl ix ic) l)
    · rfl
    · have h3 := zeroB_cut e 2 15
      have h4 := zeroB_rep (show zeroB (frT (frmL n (tagL rp rg pl ix ic) l)) = true from h3)
      rw [hT, ho] at h4
      rw [h4] at t5
      have h5 : getN (List.replicate 15 (0 : UInt8)) 9 6 = 0 := by decide +kernel
      omega
  refine ⟨hlen, ?_, hT, hN, hB⟩
  have h0 : okLen (frmL n (tagL rp rg pl ix ic) l) = true := by
    unfold okLen
    rw [hlen]
    rcases hn with ⟨rfl, _⟩ | ⟨rfl, _⟩ <;> rfl
  have h1 : tagB (frT (frmL n (tagL rp rg pl ix ic) l)) = true := by rw [hT]; exact t0
  have h3 : frN (frmL n (tagL rp rg pl ix ic) l) ≤ frRoom (frmL n (tagL rp rg pl ix ic) l) := by
    rw [hN]
    unfold frRoom
    rw [hlen]
    rcases hn with ⟨rfl, h⟩ | ⟨rfl, h⟩
    · exact h
    · exact h
  refine (seal_own h0 h1 h3 hz).1 ?_
  rw [hN, hT, t1, t2, t3, t4, t5, hB, hlen]

/-- four bytes that go in -/
theorem stn8_mul (N : Nat) : stn 8 (256 * N) = N := by
  have e : ∀ a : Nat, stp (2 * a) = a := by
    intro a
    unfold stp
    rw [if_neg (by omega)]
    omega
  have e2 : ∀ k a : Nat, stn k (2 ^ k * a) = a := by
    intro k
    induction k with
    | zero => intro a; show 2 ^ 0 * a = a; omega
    | succ k ih =>
      intro a
      show stn k (stp (2 ^ (k + 1) * a)) = a
      rw [show 2 ^ (k + 1) * a = 2 * (2 ^ k * a) by rw [Nat.pow_succ, Nat.mul_comm (2 ^ k) 2, Nat.mul_assoc], e]
      exact ih a
  exact e2 8 N
theorem low_xor (x N : Nat) (h : x < 256) : x + 256 * N = x ^^^ (256 * N) := by
  have e : 256 * N = N <<< 8 := by rw [Nat.shiftLeft_eq]; omega
  rw [e, Nat.add_comm, Nat.xor_comm]
  have h1 := Nat.two_pow_add_eq_or_of_lt (i := 8) (b := x) h N
  have h2 : 2 ^ 8 * N = N <<< 8 := by rw [Nat.shiftLeft_eq]; omega
  rw [h2] at h1
  rw [h1]
  apply Nat.eq_of_testBit_eq
  intro i
  rw [Nat.testBit_or, Nat.testBit_xor, Nat.testBit_shiftLeft]
  by_cases hi : i < 8
  · simp [show ¬ 8 ≤ i by omega]
  · have : x.testBit i = false := Nat.testBit_lt_two_pow (Nat.lt_of_lt_of_le h (Nat.pow_le_pow_right (n := 2) (by omega) (show 8 ≤ i by omega)))
    simp [this]
theorem reg_leN (r : Nat) (t : List UInt8) : reg r t = stn (8 * t.length) (r ^^^ leN t) := by
  induction t generalizing r with
  | nil => simp [reg, leN, stn]
  | cons x t ih =>
    show reg (crcB r x) t = _
    rw [ih, List.length_cons, show 8 * (t.length + 1) = 8 + 8 * t.length by omega, stn_add]
    congr 1
    show stn 8 (r ^^^ x.toNat) ^^^ leN t = stn 8 (r ^^^ (x.toNat + 256 * leN t))
    rw [low_xor _ _ x.toNat_lt, ← Nat.xor_assoc, stn_xor 8 (r ^^^ x.toNat), stn8_mul]
def sum0 : Nat := 4294967295 ^^^ stn 32 4294967295
theorem sum_four {t : List UInt8} (h : t.length = 4) : sum t = sum0 ^^^ stn 32 (leN t) := by
  unfold sum ext sum0
  rw [Nat.xor_zero, reg_leN, h, stn_xor, Nat.xor_assoc]
theorem frSum_iff {l : List UInt8} (h : 4 ≤ l.length) : frSum l = true ↔ sum l = sum0 := by
  have hd : (l.drop (l.length - 4)).length = 4 := by simp; omega
  have e : sum l = stn 32 (sum (l.take (l.length - 4))) ^^^ (sum0 ^^^ stn 32 (leN (l.drop (l.length - 4)))) := by
    have := sum_append (l.take (l.length - 4)) (l.drop (l.length - 4))
    rw [List.take_append_drop, hd, sum_four hd] at this
    exact this
  have hs := sum_lt (l.take (l.length - 4))
  have hn : leN (l.drop (l.length - 4)) < 4294967296 := by have := leN_lt (l.drop (l.length - 4)); rw [hd] at this; omega
  unfold frSum
  rw [decide_eq_true_eq, e]
  constructor
  · intro h1
    rw [h1, Nat.xor_comm sum0, ← Nat.xor_assoc, Nat.xor_self, Nat.zero_xor]
  · intro h1
    have h2 : stn 32 (sum (l.take (l.length - 4))) ^^^ stn 32 (leN (l.drop (l.length - 4))) = 0 := by
      have h3 := congrArg (fun x => sum0 ^^^ x) h1
      simp only [Nat.xor_self] at h3
      have h4 : ∀ a b : Nat, sum0 ^^^ (a ^^^ (sum0 ^^^ b)) = a ^^^ b := by
        intro a b
        rw [← Nat.xor_assoc a, Nat.xor_comm a, Nat.xor_assoc, xor_cancel]
      rw [← h3, h4]
    exact (stn_inj hs hn (xor_eq_zero' h2)).symm
theorem frG_sum {l : List UInt8} (h : frG l = true) : sum l = sum0 := by
  obtain ⟨h0, _, _, _, h4, _⟩ := frG_parts h
  exact (frSum_iff (by rcases okLen_cases h0 with e | e <;> omega)).1 h4
theorem toggle_twice (l : List UInt8) (p : Nat) (h : p < 8 * l.length) : toggle (toggle l p) p = l := by
  have hk : p / 8 < l.length := by omega
  unfold toggle
  rw [List.set_set]
  have e : (l.set (p / 8) (l.getD (p / 8) 0 ^^^ UInt8.ofNat (2 ^ (p % 8)))).getD (p / 8) 0 = l.getD (p / 8) 0 ^^^ UInt8.ofNat (2 ^ (p % 8)) := by
    simp [List.getD_eq_getElem?_getD, hk]
  rw [e, UInt8.xor_assoc, UInt8.xor_self, UInt8.xor_zero]
  simp [List.getD_eq_getElem?_getD, hk]
theorem toggle_set (C : List UInt8) (p : Nat) (h : p / 8 < C.length) : toggle C p = C.set (p / 8) (C[p / 8] ^^^ UInt8.ofNat (2 ^ (p % 8))) := by
  unfold toggle
  rw [List.getD_eq_getElem?_getD, List.getElem?_eq_getElem h]
  rfl
theorem toggle_val (C : List UInt8) (p : Nat) (h : p / 8 < C.length) : bits BinOp.xor IntKind.u8 ((C[p / 8].toNat : Nat) : Int) (2 ^ (p % 8) % 256) = ((C[p / 8] ^^^ UInt8.ofNat (2 ^ (p % 8))).toNat : Int) := by
  have h2 : 2 ^ (p % 8) < 256 := Nat.lt_of_lt_of_le (Nat.pow_lt_pow_right (a := 2) (by omega) (show p % 8 < 8 by omega)) (by omega)
  have h3 : (2 : Int) ^ (p % 8) % 256 = ((2 ^ (p % 8) : Nat) : Int) := by
    have e : ((2 ^ (p % 8) : Nat) : Int) = (2 : Int) ^ (p % 8) := by rw [Int.natCast_pow]; rfl
    have h4 : ∀ z : Nat, z < 256 → (z : Int) % 256 = z := by intro z hz; omega
    rw [← e, h4 _ h2]
  rw [h3, u8_xor _ _ C[p / 8].toNat_lt h2, UInt8.toNat_xor, UInt8.toNat_ofNat', Nat.mod_eq_of_lt h2]
theorem toggles_length (ps : List Nat) (b : List UInt8) : (ps.foldl toggle b).length = b.length := by
  induction ps generalizing b with
  | nil => rfl
  | cons p ps ih => rw [List.foldl_cons, ih, toggle_length]
theorem stn_one_lt (k : Nat) : stn k 1 < 4294967296 := stn_lt k (by omega)
theorem stn_one_odd (k : Nat) : popk 32 (stn k 1) % 2 = 1 := by
  rw [popk_stn k (by omega)]
  decide
/-- rows with at most three bits turned about: the sums are the same only if the rows are -/
theorem few (b : List UInt8) (ps : List Nat) (hl : ps.length ≤ 3) (hp : ∀ p ∈ ps, p < 8 * b.length) (hb : b.length ≤ 1500) (h : sum (ps.foldl toggle b) = sum b) : b = ps.foldl toggle b := by
  rcases ps with _ | ⟨p, _ | ⟨q, _ | ⟨r, _ | ⟨s, t⟩⟩⟩⟩
  · rfl
  · have h1 := hp p (by simp)
    simp only [List.foldl_cons, List.foldl_nil] at h ⊢
    rw [sum_toggle _ _ h1] at h
    have h2 : stn (8 * b.length - p) 1 = 0 := by
      have := congrArg (fun x => sum b ^^^ x) h
      simpa [xor_cancel] using this
    exact absurd h2 stn_one_ne
  · have h1 := hp p (by simp)
    have h2 := hp q (by simp)
    simp only [List.foldl_cons, List.foldl_nil] at h ⊢
    by_cases e : p = q
    · subst e
      rw [toggle_twice b p h1]
    · rw [sum_toggle _ _ (by rw [toggle_length]; exact h2), sum_toggle _ _ h1, toggle_length, Nat.xor_assoc] at h
      have h3 : stn (8 * b.length - p) 1 ^^^ stn (8 * b.length - q) 1 = 0 := by
        have := congrArg (fun x => sum b ^^^ x) h
        simpa [xor_cancel] using this
      exact absurd (xor_eq_zero' h3) (two_ne h1 h2 (by omega) e)
  · have h1 := hp p (by simp)
    have h2 := hp q (by simp)
    have h3 := hp r (by simp)
    simp only [List.foldl_cons, List.foldl_nil] at h ⊢
    rw [sum_toggle _ _ (by rw [toggle_length, toggle_length]; exact h3), sum_toggle _ _ (by rw [toggle_length]; exact h2), sum_toggle _ _ h1, toggle_length, toggle_length, toggle_length, Nat.xor_assoc, Nat.xor_assoc] at h
    have h4 : stn (8 * b.length - p) 1 ^^^ (stn (8 * b.length - q) 1 ^^^ stn (8 * b.length - r) 1) = 0 := by
      have := congrArg (fun x => sum b ^^^ x) h
      simpa [xor_cancel] using this
    have h5 := congrArg (fun x => popk 32 x % 2) h4
    simp only [popk_xor] at h5
    have e1 := stn_one_odd (8 * b.length - p)
    have e2 := popk_xor 32 (stn (8 * b.length - q) 1) (stn (8 * b.length - r) 1)
    have e3 := stn_one_odd (8 * b.length - q)
    have e4 := stn_one_odd (8 * b.length - r)
    have e5 : popk 32 0 = 0 := by decide
    omega
  · simp at hl

end Go.Proofs.YtahfippapknolaaDoor
