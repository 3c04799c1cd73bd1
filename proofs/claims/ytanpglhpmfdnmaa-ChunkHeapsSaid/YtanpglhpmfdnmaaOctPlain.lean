/-
  PLAIN: numbers as bytes, the lowest first; texts; what the chapter on octets says, as plain functions. No program in sight.
-/
import Derived.Test.YtanpglhpmfdnmaaMem
namespace Go.Proofs.Ytanpglhpmfdnmaa

def leB : Nat → Nat → List UInt8
  | 0, _ => []
  | k + 1, n => UInt8.ofNat n :: leB k (n / 256)
def leN : List UInt8 → Nat
  | [] => 0
  | c :: l => c.toNat + 256 * leN l
theorem leB_length (k n : Nat) : (leB k n).length = k := by
  induction k generalizing n with
  | zero => rfl
  | succ k ih => simp [leB, ih]
theorem ofNat_toNat (n : Nat) : (UInt8.ofNat n).toNat = n % 256 := by simp
theorem div_pow_succ (N k : Nat) : N / 256 ^ k / 256 = N / 256 ^ (k + 1) := by rw [Nat.div_div_eq_div_mul, Nat.pow_succ]
theorem leB_succ (k n : Nat) : leB (k + 1) n = leB k n ++ [UInt8.ofNat (n / 256 ^ k)] := by
  induction k generalizing n with
  | zero => simp [leB]
  | succ k ih =>
    rw [leB, ih, leB, List.cons_append]
    congr 4
    rw [Nat.div_div_eq_div_mul, Nat.pow_succ, Nat.mul_comm]
theorem leN_lt (l : List UInt8) : leN l < 256 ^ l.length := by
  induction l with
  | nil => simp [leN]
  | cons c l ih =>
    have := c.toNat_lt
    simp only [leN, List.length_cons, Nat.pow_succ]
    omega
theorem leN_leB (k n : Nat) : leN (leB k n) = n % 256 ^ k := by
  induction k generalizing n with
  | zero => simp [leB, leN, Nat.mod_one]
  | succ k ih =>
    rw [leB, leN, ih, ofNat_toNat, Nat.pow_succ, Nat.mul_comm (256 ^ k) 256, Nat.mod_mul]
theorem leB_leN (l : List UInt8) : leB l.length (leN l) = l := by
  induction l with
  | nil => rfl
  | cons c l ih =>
    have hc := c.toNat_lt
    simp only [leN, List.length_cons, leB]
    have h1 : (c.toNat + 256 * leN l) / 256 = leN l := by omega
    rw [h1, ih]
    congr 1
    apply UInt8.toNat_inj.1
    rw [ofNat_toNat]
    omega
theorem leN_append (l m : List UInt8) : leN (l ++ m) = leN l + 256 ^ l.length * leN m := by
  induction l with
  | nil => simp [leN]
  | cons c l ih =>
    simp only [List.cons_append, leN, ih, List.length_cons, Nat.pow_succ]
    rw [Nat.mul_add, ← Nat.mul_assoc, Nat.mul_comm (256 ^ l.length) 256]; omega
theorem leB_add (j k n : Nat) : leB (j + k) n = leB j n ++ leB k (n / 256 ^ j) := by
  induction j generalizing n with
  | zero => simp [leB]
  | succ j ih =>
    rw [show j + 1 + k = (j + k) + 1 by omega, leB, ih, leB, List.cons_append, Nat.div_div_eq_div_mul, Nat.pow_succ, Nat.mul_comm (256 ^ j) 256]
theorem leB_mod (k n : Nat) : leB k (n % 256 ^ k) = leB k n := by
  have := leB_leN (leB k n)
  rwa [leB_length, leN_leB] at this
theorem leB_inj {k n m : Nat} (hn : n < 256 ^ k) (hm : m < 256 ^ k) (h : leB k n = leB k m) : n = m := by
  have := congrArg leN h
  rwa [leN_leB, leN_leB, Nat.mod_eq_of_lt hn, Nat.mod_eq_of_lt hm] at this

def isWidth (n : Int) : Bool := n == 1 || n == 2 || n == 4 || n == 6
def many (n : Int) : Int := if n = 1 then 256 else if n = 2 then 65536 else if n = 4 then 4294967296 else if n = 6 then 281474976710656 else 0
def fitsB (width n : Int) : Bool := decide (0 ≤ n) && decide (n < many width)
def putL (width n : Int) : List UInt8 := if fitsB width n then leB width.toNat n.toNat else []
def putE (width n : Int) : Int := if fitsB width n then 0 else 2

theorem isWidth_cases {n : Int} (h : isWidth n = true) : n = 1 ∨ n = 2 ∨ n = 4 ∨ n = 6 := by
  simp [isWidth] at h; omega
theorem many_pos {n : Int} : (many n == 0) = !isWidth n := by
  unfold many isWidth
  split
  · rename_i e; subst e; rfl
  split
  · rename_i e; subst e; rfl
  split
  · rename_i e; subst e; rfl
  split
  · rename_i e; subst e; rfl
  simp_all
theorem fitsB_eq (width n : Int) : fitsB width n = (isWidth width && decide (0 ≤ n) && decide (n < 256 ^ width.toNat)) := by
  unfold fitsB
  cases h : isWidth width
  · have : many width = 0 := by have := many_pos (n := width); rw [h] at this; simpa using this
    rw [this]
    by_cases h0 : 0 ≤ n <;> simp [h0]
  · rcases isWidth_cases h with rfl | rfl | rfl | rfl <;> simp [many]
theorem fitsB_true {width n : Int} (h : fitsB width n = true) : isWidth width = true ∧ 0 ≤ width ∧ width ≤ 6 ∧ 0 ≤ n ∧ n < 281474976710656 ∧ n < 256 ^ width.toNat := by
  rw [fitsB_eq] at h
  simp only [Bool.and_eq_true, decide_eq_true_eq] at h
  obtain ⟨⟨h0, h1⟩, h2⟩ := h
  refine ⟨h0, ?_, ?_, h1, ?_, h2⟩
  · rcases isWidth_cases h0 with rfl | rfl | rfl | rfl <;> omega
  · rcases isWidth_cases h0 with rfl | rfl | rfl | rfl <;> omega
  · rcases isWidth_cases h0 with rfl | rfl | rfl | rfl <;> simp at h2 <;> omega
theorem fitsB_nat {W N : Nat} (hw : isWidth W = true) : fitsB W N = decide (N / 256 ^ W = 0) := by
  rw [fitsB_eq, hw]
  have : N / 256 ^ W = 0 ↔ N < 256 ^ W := by
    rw [Nat.div_eq_zero_iff]
    have : 0 < 256 ^ W := Nat.pow_pos (by omega)
    omega
  simp only [this, Bool.true_and, Int.toNat_natCast]
  have h2 : ((N : Int) < 256 ^ W) ↔ N < 256 ^ W := by
    rw [← Int.ofNat_lt]; simp
  simp only [h2]
  simp

theorem isWidth_bounds {n : Int} (h : isWidth n = true) : 1 ≤ n ∧ n ≤ 6 := by rcases isWidth_cases h with rfl | rfl | rfl | rfl <;> omega

/-- what is read of a number at a place: the number, the place behind it, the error -/
def getE (l : List UInt8) (at_ width : Int) : Int :=
  if isWidth width = false then 2 else if at_ < 0 ∨ (l.length : Int) < at_ then 2 else if (l.length : Int) - at_ < width then 10 else 0
def getN (l : List UInt8) (at_ width : Int) : Int := if getE l at_ width = 0 then (leN ((l.drop at_.toNat).take width.toNat) : Nat) else 0
def getP (l : List UInt8) (at_ width : Int) : Int := if getE l at_ width = 0 then at_ + width else 0

theorem getE_zero {l : List UInt8} {at_ width : Int} (h : getE l at_ width = 0) : isWidth width = true ∧ 0 ≤ at_ ∧ at_ + width ≤ l.length := by
  unfold getE at h
  split at h
  · omega
  split at h
  · omega
  split at h
  · omega
  rename_i h1 h2 h3
  exact ⟨by simpa using h1, by omega, by omega⟩

theorem leN_take_lt (l : List UInt8) (k W : Nat) : leN ((l.drop k).take W) < 256 ^ W := by
  refine Nat.lt_of_lt_of_le (leN_lt _) (Nat.pow_le_pow_right (by omega) ?_)
  simp; omega

/-- the error of a text that is read -/
def readE (l : List UInt8) (at_ : Int) : Int :=
  if getE l at_ 1 ≠ 0 then getE l at_ 1 else if (l.length : Int) - (at_ + 1) < getN l at_ 1 then 10 else 0
def readS (l : List UInt8) (at_ : Int) : List UInt8 := if readE l at_ = 0 then (l.drop (at_.toNat + 1)).take (getN l at_ 1).toNat else []
def readP (l : List UInt8) (at_ : Int) : Int := if readE l at_ = 0 then at_ + 1 + getN l at_ 1 else 0

/-- a text's bytes -/
def textL (s : List UInt8) : List UInt8 := if s.length ≤ 255 then UInt8.ofNat s.length :: s else []
def textE (s : List UInt8) : Int := if s.length ≤ 255 then 0 else 3

theorem flatten_take_succ (ls : List (List UInt8)) (k : Nat) (h : k < ls.length) : (ls.take (k + 1)).flatten = (ls.take k).flatten ++ ls[k] := by
  rw [List.take_succ_eq_append_getElem h, List.flatten_append]; simp
theorem flatten_take_le (ls : List (List UInt8)) (k : Nat) (h : k < ls.length) : (ls.take k).flatten.length + ls[k].length ≤ ls.flatten.length := by
  rw [← List.length_append, ← flatten_take_succ ls k h]
  conv => rhs; rw [← List.take_append_drop (k + 1) ls, List.flatten_append, List.length_append]
  omega
theorem set_mid (l : List UInt8) (m : Nat) (x : UInt8) (hm : 0 < m) : (l ++ List.replicate m 0).set l.length x = (l ++ [x]) ++ List.replicate (m - 1) 0 := by
  obtain ⟨m, rfl⟩ : ∃ k, m = k + 1 := ⟨m - 1, by omega⟩
  rw [List.set_append_right _ _ (Nat.le_refl _), Nat.sub_self, List.replicate_succ, List.set_cons_zero, List.append_assoc]
  rfl
theorem shr_byte (N k : Nat) : (N : Int) / 2 ^ (8 * k) % 256 = ((UInt8.ofNat (N / 256 ^ k)).toNat : Int) := by
  rw [ofNat_toNat, show (256 : Nat) = 2 ^ 8 from rfl, ← Nat.pow_mul]
  simp
end Go.Proofs.Ytanpglhpmfdnmaa
