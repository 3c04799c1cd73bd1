/-
  PLAIN: the sum's register as a linear machine over bits: no program in sight.
-/
namespace Go.Proofs.YtahfippapknolaaDoor

/-- one bit's step of the register -/
def stp (r : Nat) : Nat := if r % 2 = 1 then (r / 2) ^^^ 2197175160 else r / 2
/-- k steps -/
def stn : Nat → Nat → Nat
  | 0, r => r
  | k + 1, r => stn k (stp r)

theorem xor_mod2 (a b : Nat) : (a ^^^ b) % 2 = (a % 2 + b % 2) % 2 := by
  have h := Nat.xor_mod_two_pow (a := a) (b := b) (n := 1)
  rw [Nat.pow_one] at h
  rw [h]
  rcases Nat.mod_two_eq_zero_or_one a with ha | ha <;> rcases Nat.mod_two_eq_zero_or_one b with hb | hb <;> rw [ha, hb] <;> rfl
theorem xor_div2 (a b : Nat) : (a ^^^ b) / 2 = (a / 2) ^^^ (b / 2) := by
  apply Nat.eq_of_testBit_eq
  intro i
  rw [Nat.testBit_div_two, Nat.testBit_xor, Nat.testBit_xor, Nat.testBit_div_two, Nat.testBit_div_two]

theorem stp_xor (a b : Nat) : stp (a ^^^ b) = stp a ^^^ stp b := by
  unfold stp
  rw [xor_mod2, xor_div2]
  rcases Nat.mod_two_eq_zero_or_one a with ha | ha <;> rcases Nat.mod_two_eq_zero_or_one b with hb | hb <;> simp only [ha, hb]
  · simp
  · simp [Nat.xor_assoc]
  · simp only [if_true, Nat.zero_ne_one, if_false]
    rw [Nat.xor_assoc, Nat.xor_assoc, Nat.xor_comm (b / 2)]
  · simp only [Nat.reduceAdd, Nat.mod_self, Nat.zero_ne_one, if_false, if_true]
    rw [Nat.xor_assoc, ← Nat.xor_assoc 2197175160, Nat.xor_comm 2197175160 (b / 2), Nat.xor_assoc (b / 2), Nat.xor_self, Nat.xor_zero]
theorem stp_zero : stp 0 = 0 := rfl
theorem stp_lt {r : Nat} (h : r < 4294967296) : stp r < 4294967296 := by
  unfold stp
  split
  · exact Nat.xor_lt_two_pow (n := 32) (by omega) (by omega)
  · omega
theorem stn_xor (k a b : Nat) : stn k (a ^^^ b) = stn k a ^^^ stn k b := by
  induction k generalizing a b with
  | zero => rfl
  | succ k ih => simp only [stn, stp_xor, ih]
theorem stn_zero (k : Nat) : stn k 0 = 0 := by
  induction k with
  | zero => rfl
  | succ k ih => simp only [stn, stp_zero, ih]
theorem stn_add (j k r : Nat) : stn (j + k) r = stn k (stn j r) := by
  induction j generalizing r with
  | zero => simp [stn]
  | succ j ih => rw [show j + 1 + k = (j + k) + 1 by omega, stn, ih, stn]
theorem stn_succ (k r : Nat) : stn (k + 1) r = stp (stn k r) := by rw [stn_add]; rfl
theorem stn_lt {r : Nat} (k : Nat) (h : r < 4294967296) : stn k r < 4294967296 := by
  induction k generalizing r with
  | zero => exact h
  | succ k ih => exact ih (stp_lt h)

/-- the step forgets nothing -/
theorem stp_eq_zero {r : Nat} (hr : r < 4294967296) (h : stp r = 0) : r = 0 := by
  unfold stp at h
  split at h
  · have h2 : r / 2 = 2197175160 := by
      have := congrArg (fun x => x ^^^ 2197175160) h
      simpa [Nat.xor_assoc] using this
    omega
  · omega
theorem stn_eq_zero {r k : Nat} (hr : r < 4294967296) (h : stn k r = 0) : r = 0 := by
  induction k generalizing r with
  | zero => exact h
  | succ k ih => exact stp_eq_zero hr (ih (stp_lt hr) h)
theorem xor_eq_zero' {a b : Nat} (h : a ^^^ b = 0) : a = b := by
  have := congrArg (fun x => x ^^^ b) h
  simpa [Nat.xor_assoc] using this
theorem stn_inj {a b k : Nat} (ha : a < 4294967296) (hb : b < 4294967296) (h : stn k a = stn k b) : a = b := by
  apply xor_eq_zero'
  apply stn_eq_zero (k := k) (Nat.xor_lt_two_pow (n := 32) ha hb)
  rw [stn_xor, h, Nat.xor_self]

/-- a byte goes in -/
def crcB (r : Nat) (x : UInt8) : Nat := stn 8 (r ^^^ x.toNat)
/-- the register behind bytes -/
def reg (r : Nat) (l : List UInt8) : Nat := l.foldl crcB r
/-- a sum that is extended -/
def ext (s : Nat) (l : List UInt8) : Nat := 4294967295 ^^^ reg (4294967295 ^^^ s) l
def sum (l : List UInt8) : Nat := ext 0 l

theorem u8_lt (x : UInt8) : x.toNat < 4294967296 := by have := x.toNat_lt; omega
theorem inB_lt {r : Nat} (x : UInt8) (h : r < 4294967296) : crcB r x < 4294967296 := stn_lt 8 (Nat.xor_lt_two_pow (n := 32) h (u8_lt x))
theorem reg_lt {r : Nat} (l : List UInt8) (h : r < 4294967296) : reg r l < 4294967296 := by
  induction l generalizing r with
  | nil => exact h
  | cons x l ih => exact ih (inB_lt x h)
theorem ext_lt {s : Nat} (l : List UInt8) (h : s < 4294967296) : ext s l < 4294967296 :=
  Nat.xor_lt_two_pow (n := 32) (by omega) (reg_lt l (Nat.xor_lt_two_pow (n := 32) (by omega) h))
theorem sum_lt (l : List UInt8) : sum l < 4294967296 := ext_lt l (by omega)
theorem reg_append (r : Nat) (l m : List UInt8) : reg r (l ++ m) = reg (reg r l) m := List.foldl_append
theorem xor_cancel (a b : Nat) : a ^^^ (a ^^^ b) = b := by rw [← Nat.xor_assoc, Nat.xor_self, Nat.zero_xor]
theorem ext_append (s : Nat) (l m : List UInt8) : ext s (l ++ m) = ext (ext s l) m := by
  unfold ext
  rw [reg_append, xor_cancel]

/-- the register is linear in what stood in it -/
theorem reg_xor (r s : Nat) (l : List UInt8) : reg (r ^^^ s) l = reg r l ^^^ stn (8 * l.length) s := by
  induction l generalizing r s with
  | nil => rfl
  | cons x l ih =>
    have h : crcB (r ^^^ s) x = crcB r x ^^^ stn 8 s := by
      unfold crcB
      rw [← stn_xor]
      congr 1
      rw [Nat.xor_assoc, Nat.xor_comm s, ← Nat.xor_assoc]
    show reg (crcB (r ^^^ s) x) l = reg (crcB r x) l ^^^ _
    rw [h, ih, ← stn_add, List.length_cons]
    congr 2; omega
/-- a sum extended is what Combine makes of the two -/
theorem ext_eq (s : Nat) (l : List UInt8) : ext s l = stn (8 * l.length) s ^^^ sum l := by
  unfold sum ext
  rw [Nat.xor_zero, reg_xor, ← Nat.xor_assoc, Nat.xor_comm]
theorem sum_append (l m : List UInt8) : sum (l ++ m) = stn (8 * m.length) (sum l) ^^^ sum m := by
  have h1 : sum (l ++ m) = ext (sum l) m := ext_append 0 l m
  rw [h1, ext_eq]

/-- rows turned one by the other -/
def rowX (l m : List UInt8) : List UInt8 := List.zipWith (fun x y => x ^^^ y) l m
theorem reg_rowX (r s : Nat) (l m : List UInt8) (h : l.length = m.length) : reg (r ^^^ s) (rowX l m) = reg r l ^^^ reg s m := by
  induction l generalizing r s m with
  | nil => cases m with
    | nil => rfl
    | cons y m => simp at h
  | cons x l ih => cases m with
    | nil => simp at h
    | cons y m =>
      have h1 : crcB (r ^^^ s) (x ^^^ y) = crcB r x ^^^ crcB s y := by
        unfold crcB
        rw [← stn_xor, UInt8.toNat_xor]
        congr 1
        rw [Nat.xor_assoc, ← Nat.xor_assoc s, Nat.xor_comm s, Nat.xor_assoc x.toNat, ← Nat.xor_assoc r]
      show reg (crcB (r ^^^ s) (x ^^^ y)) (rowX l m) = reg (crcB r x) l ^^^ reg (crcB s y) m
      rw [h1]
      exact ih _ _ m (by simpa using h)
theorem rowX_length {l m : List UInt8} (h : l.length = m.length) : (rowX l m).length = l.length := by simp [rowX, h]
theorem sum_three {a b c : List UInt8} (h1 : a.length = b.length) (h2 : a.length = c.length) : sum (rowX (rowX a b) c) = sum a ^^^ sum b ^^^ sum c := by
  unfold sum ext
  have e : (4294967295 : Nat) ^^^ 0 = ((4294967295 ^^^ 0) ^^^ (4294967295 ^^^ 0)) ^^^ (4294967295 ^^^ 0) := rfl
  rw [e, reg_rowX _ _ _ _ (by rw [rowX_length h1, h2]), reg_rowX _ _ _ _ h1]
  simp only [Nat.xor_zero]
  generalize reg 4294967295 a = x
  generalize reg 4294967295 b = y
  generalize reg 4294967295 c = z
  show 4294967295 ^^^ (x ^^^ y ^^^ z) = 4294967295 ^^^ x ^^^ (4294967295 ^^^ y) ^^^ (4294967295 ^^^ z)
  generalize 4294967295 = o
  have h1 : o ^^^ x ^^^ (o ^^^ y) = x ^^^ y := by rw [Nat.xor_comm o x, Nat.xor_assoc, xor_cancel]
  rw [h1, Nat.xor_comm o, Nat.xor_comm o, ← Nat.xor_assoc]

/-! ### Bits that are turned -/
/-- bit p of a row turned about -/
def toggle (l : List UInt8) (p : Nat) : List UInt8 := l.set (p / 8) (l.getD (p / 8) 0 ^^^ UInt8.ofNat (2 ^ (p % 8)))
theorem toggle_length (l : List UInt8) (p : Nat) : (toggle l p).length = l.length := by simp [toggle]
theorem pow_step (k : Nat) : stn k (2 ^ k) = 1 := by
  induction k with
  | zero => rfl
  | succ k ih =>
    have h : stp (2 ^ (k + 1)) = 2 ^ k := by
      unfold stp
      rw [Nat.pow_succ, if_neg (by omega)]
      omega
    rw [stn, h, ih]
theorem pow_stn {j k : Nat} (h : j ≤ k) : stn k (2 ^ j) = stn (k - j) 1 := by
  rw [show k = j + (k - j) by omega, stn_add, pow_step, show j + (k - j) - j = k - j by omega]
theorem reg_toggle (r : Nat) (l : List UInt8) (p : Nat) (h : p < 8 * l.length) : reg r (toggle l p) = reg r l ^^^ stn (8 * l.length - p) 1 := by
  induction l generalizing r p with
  | nil => simp at h
  | cons x l ih =>
    by_cases hp : p < 8
    · have h1 : toggle (x :: l) p = (x ^^^ UInt8.ofNat (2 ^ p)) :: l := by
        unfold toggle
        rw [show p / 8 = 0 by omega, show p % 8 = p by omega]
        rfl
      have h2 : crcB r (x ^^^ UInt8.ofNat (2 ^ p)) = crcB r x ^^^ stn (8 - p) 1 := by
        unfold crcB
        have h3 : (UInt8.ofNat (2 ^ p)).toNat = 2 ^ p := by
          rw [UInt8.toNat_ofNat']
          exact Nat.mod_eq_of_lt (Nat.pow_lt_pow_right (by omega) hp)
        rw [UInt8.toNat_xor, h3, ← Nat.xor_assoc, stn_xor, pow_stn (by omega)]
      rw [h1]
      show reg (crcB r (x ^^^ UInt8.ofNat (2 ^ p))) l = reg (crcB r x) l ^^^ _
      rw [h2, reg_xor, ← stn_add, List.length_cons]
      congr 2; omega
    · have h1 : toggle (x :: l) p = x :: toggle l (p - 8) := by
        unfold toggle
        have e1 : p / 8 = (p - 8) / 8 + 1 := by omega
        have e2 : p % 8 = (p - 8) % 8 := by omega
        rw [e1, e2]
        rfl
      rw [h1]
      show reg (crcB r x) (toggle l (p - 8)) = reg (crcB r x) l ^^^ _
      rw [ih _ _ (by simp at h; omega), List.length_cons]
      congr 2; omega
theorem sum_toggle (l : List UInt8) (p : Nat) (h : p < 8 * l.length) : sum (toggle l p) = sum l ^^^ stn (8 * l.length - p) 1 := by
  unfold sum ext
  rw [reg_toggle _ _ _ h, Nat.xor_assoc]

/-! ### How many bits -/
def popk : Nat → Nat → Nat
  | 0, _ => 0
  | k + 1, n => n % 2 + popk k (n / 2)
theorem popk_xor (k a b : Nat) : popk k (a ^^^ b) % 2 = (popk k a + popk k b) % 2 := by
  induction k generalizing a b with
  | zero => rfl
  | succ k ih =>
    simp only [popk, xor_div2]
    have h1 := ih (a / 2) (b / 2)
    have h2 := xor_mod2 a b
    omega
theorem popk_small (k n : Nat) (h : n < 2 ^ k) : popk (k + 1) n = popk k n := by
  induction k generalizing n with
  | zero => have : n = 0 := by omega
            subst this; rfl
  | succ k ih =>
    rw [popk, ih (n / 2) (by rw [Nat.pow_succ] at h; omega), popk]
theorem popk_more (j k n : Nat) (h : n < 2 ^ k) : popk (k + j) n = popk k n := by
  induction j with
  | zero => rfl
  | succ j ih =>
    rw [show k + (j + 1) = (k + j) + 1 by omega, popk_small _ _ (Nat.lt_of_lt_of_le h (Nat.pow_le_pow_right (by omega) (by omega))), ih]
theorem popk_stp {r : Nat} (h : r < 4294967296) : popk 32 (stp r) % 2 = popk 32 r % 2 := by
  have h1 : popk 32 r = r % 2 + popk 31 (r / 2) := rfl
  have h2 : popk 32 (r / 2) = popk 31 (r / 2) := popk_small 31 _ (by omega)
  have h3 : popk 32 2197175160 = 17 := by decide
  unfold stp
  split
  · rw [popk_xor, h1, h2, h3]; omega
  · rw [h1, h2]; omega
theorem popk_stn {r : Nat} (k : Nat) (h : r < 4294967296) : popk 32 (stn k r) % 2 = popk 32 r % 2 := by
  induction k generalizing r with
  | zero => rfl
  | succ k ih => rw [stn, ih (stp_lt h), popk_stp h]
def popB (x : UInt8) : Nat := popk 8 x.toNat
def popL (l : List UInt8) : Nat := (l.map popB).sum
theorem popk_reg {r : Nat} (l : List UInt8) (h : r < 4294967296) : popk 32 (reg r l) % 2 = (popk 32 r + popL l) % 2 := by
  induction l generalizing r with
  | nil =>
    have h1 : reg r [] = r := by rw [reg, List.foldl_nil]
    have h2 : popL [] = 0 := by rw [popL, List.map_nil, List.sum_nil]
    rw [h1, h2, Nat.add_zero]
  | cons x l ih =>
    have h0 : reg r (x :: l) = reg (crcB r x) l := rfl
    rw [h0, ih (inB_lt x h)]
    clear h0 ih
    have h1 : popk 32 (crcB r x) % 2 = (popk 32 r + popB x) % 2 := by
      unfold crcB
      rw [popk_stn _ (Nat.xor_lt_two_pow (n := 32) h (u8_lt x)), popk_xor]
      rw [show (32 : Nat) = 8 + 24 from rfl, popk_more 24 8 x.toNat x.toNat_lt]
      rfl
    have h2 : popL (x :: l) = popB x + popL l := by simp [popL]
    omega
/-- in how many bits two rows differ -/
def turned (a b : List UInt8) : Int := if a.length = b.length then (popL (rowX a b) : Nat) else -1
theorem sum_eq_reg {a b : List UInt8} (h : a.length = b.length) (hs : sum a = sum b) : reg 0 (rowX a b) = 0 := by
  have h1 := reg_rowX 4294967295 4294967295 a b h
  rw [Nat.xor_self] at h1
  rw [h1]
  unfold sum ext at hs
  rw [Nat.xor_zero] at hs
  have h2 := congrArg (fun x => 4294967295 ^^^ x) hs
  simp only [xor_cancel] at h2
  rw [h2, Nat.xor_self]
theorem sum_odd {a b : List UInt8} (h : a.length = b.length) (hs : sum a = sum b) : turned a b % 2 = 0 := by
  have h1 := popk_reg (r := 0) (rowX a b) (by omega)
  rw [sum_eq_reg h hs] at h1
  have h2 : popk 32 0 = 0 := by decide
  rw [h2] at h1
  unfold turned
  rw [if_pos h]
  omega
theorem popk_zero {k n : Nat} (hn : n < 2 ^ k) (h : popk k n = 0) : n = 0 := by
  induction k generalizing n with
  | zero => omega
  | succ k ih =>
    simp only [popk] at h
    have := ih (n := n / 2) (by rw [Nat.pow_succ] at hn; omega) (by omega)
    omega
theorem popB_xor_zero {x y : UInt8} (h : popB (x ^^^ y) = 0) : x = y := by
  have h1 := popk_zero (k := 8) (x ^^^ y).toNat_lt h
  rw [UInt8.toNat_xor] at h1
  exact UInt8.toNat_inj.1 (xor_eq_zero' h1)
theorem popL_zero {a b : List UInt8} (h : a.length = b.length) (h0 : popL (rowX a b) = 0) : a = b := by
  induction a generalizing b with
  | nil => cases b with
    | nil => rfl
    | cons y b => simp at h
  | cons x a ih => cases b with
    | nil => simp at h
    | cons y b =>
      have h2 : popL (rowX (x :: a) (y :: b)) = popB (x ^^^ y) + popL (rowX a b) := by simp [popL, rowX]
      rw [h2] at h0
      rw [popB_xor_zero (show popB (x ^^^ y) = 0 by omega), ih (by simpa using h) (by omega)]
theorem turned_zero {a b : List UInt8} (h : a.length = b.length) : (turned a b = 0) ↔ a = b := by
  unfold turned
  rw [if_pos h]
  constructor
  · intro h0
    exact popL_zero h (by omega)
  · rintro rfl
    have : popL (rowX a a) = 0 := by
      clear h
      induction a with
      | nil => rfl
      | cons x a ih =>
        have h2 : popL (rowX (x :: a) (x :: a)) = popB (x ^^^ x) + popL (rowX a a) := by simp [popL, rowX]
        rw [h2, ih, UInt8.xor_self]
        rfl
    omega

/-! ### Products -/
def tmsk : Nat → Nat → Nat → Nat → Nat
  | 0, _, _, out => out
  | k + 1, a, b, out => tmsk k a (stp b) (if a.testBit k then out ^^^ b else out)
def times (a b : Nat) : Nat := tmsk 32 a b 0
theorem stp_pow (k : Nat) : stp (2 ^ (k + 1)) = 2 ^ k := by
  unfold stp
  rw [Nat.pow_succ, if_neg (by omega)]
  omega
theorem stn_stp (j r : Nat) : stn j (stp r) = stp (stn j r) := by rw [← stn_succ]; rfl
theorem mod_succ_bit (a k : Nat) : a % 2 ^ (k + 1) = (a % 2 ^ k) ^^^ (if a.testBit k then 2 ^ k else 0) := by
  apply Nat.eq_of_testBit_eq
  intro i
  rw [Nat.testBit_mod_two_pow, Nat.testBit_xor, Nat.testBit_mod_two_pow]
  by_cases hb : a.testBit k
  · rw [if_pos hb, Nat.testBit_two_pow]
    by_cases hi : i = k
    · subst hi; simp [hb]
    · have h1 : decide (k = i) = false := by simp; omega
      have h2 : decide (i < k + 1) = decide (i < k) := by simp; omega
      rw [h1, h2]; simp
  · rw [if_neg hb, Nat.zero_testBit]
    by_cases hi : i = k
    · subst hi; simp at hb; simp [hb]
    · have h2 : decide (i < k + 1) = decide (i < k) := by simp; omega
      rw [h2]; simp
theorem tmsk_eq (J k a out : Nat) : tmsk k a (stn J (2 ^ k / 2)) out = out ^^^ stn J (a % 2 ^ k) := by
  induction k generalizing out with
  | zero => simp [tmsk, Nat.mod_one, stn_zero]
  | succ k ih =>
    have e1 : (2 : Nat) ^ (k + 1) / 2 = 2 ^ k := by rw [Nat.pow_succ]; omega
    rw [tmsk, e1, ← stn_stp]
    have e2 : stn J (stp (2 ^ k)) = stn J (2 ^ k / 2) ∨ k = 0 := by
      cases k with
      | zero => exact .inr rfl
      | succ k => left; rw [stp_pow, Nat.pow_succ]; congr 1; omega
    have e3 : ∀ o, tmsk k a (stn J (stp (2 ^ k))) o = o ^^^ stn J (a % 2 ^ k) := by
      intro o
      rcases e2 with e2 | rfl
      · rw [e2]; exact ih o
      · simp [tmsk, Nat.mod_one, stn_zero]
    rw [e3, mod_succ_bit, stn_xor]
    by_cases hb : a.testBit k
    · rw [if_pos hb, if_pos hb, Nat.xor_assoc, Nat.xor_comm (stn J (2 ^ k))]
    · rw [if_neg hb, if_neg hb, stn_zero, Nat.xor_zero]
theorem times_eq {a : Nat} (J : Nat) (h : a < 4294967296) : times a (stn J 2147483648) = stn J a := by
  have := tmsk_eq J 32 a 0
  rw [Nat.zero_xor, Nat.mod_eq_of_lt h] at this
  exact this

/-! ### The order of the step -/
def sqn : Nat → Nat → Nat
  | 0, a => a
  | k + 1, a => sqn k (times a a)
theorem sqn_eq (k v : Nat) : sqn k (stn v 2147483648) = stn (v * 2 ^ k) 2147483648 := by
  induction k generalizing v with
  | zero => simp [sqn]
  | succ k ih =>
    rw [sqn, times_eq _ (stn_lt _ (by omega)), ← stn_add, ih, Nat.pow_succ]
    congr 1
    rw [← Nat.two_mul, Nat.mul_comm 2 v, Nat.mul_assoc, Nat.mul_comm 2]
theorem sq31 : sqn 31 1073741824 = 1073741824 := by decide +kernel
theorem period : stn 2147483647 1 = 1 := by
  have h1 : stn 1 2147483648 = 1073741824 := rfl
  have h2 := sqn_eq 31 1
  rw [h1, sq31, Nat.one_mul] at h2
  have h3 : stn 1 (stn 2147483647 2147483648) = stn 1 2147483648 := by
    rw [← stn_add, h1, h2]
  have h4 := stn_inj (stn_lt _ (by omega)) (by omega) h3
  have h5 : stn 31 2147483648 = 1 := pow_step 31
  rw [← h5, ← stn_add, Nat.add_comm, stn_add, h4]
def chk : Nat → Nat → Bool
  | 0, lo => 2147483647 % lo != 0
  | d + 1, lo => chk d lo && chk d (lo + 2 ^ d)
theorem chk_spec (d lo : Nat) (h : chk d lo = true) (x : Nat) (h1 : lo ≤ x) (h2 : x < lo + 2 ^ d) : 2147483647 % x ≠ 0 := by
  induction d generalizing lo with
  | zero =>
    have : x = lo := by omega
    subst this
    simpa [chk] using h
  | succ d ih =>
    simp only [chk, Bool.and_eq_true] at h
    by_cases hx : x < lo + 2 ^ d
    · exact ih lo h.1 h1 hx
    · exact ih (lo + 2 ^ d) h.2 (by omega) (by rw [Nat.pow_succ] at h2; omega)
theorem chk14 : chk 14 2 = true := by decide +kernel
theorem stn_mul {k : Nat} (h : stn k 1 = 1) (m : Nat) : stn (k * m) 1 = 1 := by
  induction m with
  | zero => rfl
  | succ m ih => rw [Nat.mul_succ, stn_add, ih, h]
theorem order {k : Nat} (h0 : 0 < k) (h1 : k ≤ 16000) : stn k 1 ≠ 1 := by
  induction k using Nat.strongRecOn with
  | ind k ih =>
    intro h
    have hM : stn (2147483647 % k) 1 = 1 := by
      have h2 := period
      rw [show 2147483647 = k * (2147483647 / k) + 2147483647 % k from (Nat.div_add_mod _ _).symm, stn_add, stn_mul h] at h2
      exact h2
    have hlt := Nat.mod_lt 2147483647 h0
    by_cases h1k : k = 1
    · subst h1k
      revert h
      decide
    · have hne := chk_spec 14 2 chk14 k (by omega) (by omega)
      exact ih _ hlt (by omega) (by omega) hM

/-- rows with one bit, two bits turned about -/
theorem stn_one_ne {k : Nat} : stn k 1 ≠ 0 := fun h => by
  have := stn_eq_zero (by omega) h
  omega
theorem two_ne {n p q : Nat} (hp : p < n) (hq : q < n) (hn : n ≤ 16000) (hne : p ≠ q) : stn (n - p) 1 ≠ stn (n - q) 1 := by
  have main : ∀ p q, p < n → q < n → p < q → stn (n - p) 1 ≠ stn (n - q) 1 := by
    intro p q hp hq hlt h
    rw [show n - p = (q - p) + (n - q) by omega, stn_add] at h
    exact order (by omega) (by omega) (stn_inj (stn_lt _ (by omega)) (by omega) h)
  rcases Nat.lt_or_ge p q with h | h
  · exact main p q hp hq h
  · exact fun e => main q p hq hp (by omega) e.symm
end Go.Proofs.YtahfippapknolaaDoor
