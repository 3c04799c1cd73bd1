/-
  SMALL WORDS FOR WALKS: results, bytes read, what is the same.
-/
import Derived.Test.YtanpglhpmfdnmaaSC
import Derived.Test.YtanpglhpmfdnmaaBlk
import Derived.Test.YtanpglhpmfdnmaaCalm
import Derived.Test.YtanpglhpmfdnmaaOct
import Derived.Test.YtanpglhpmfdnmaaRef01
namespace Go.Proofs.Ytanpglhpmfdnmaa
open Go.RowKit
set_option linter.unusedVariables false

def inB (n l m : Int) : Bool := decide (l ≤ n) && decide (n ≤ m)
theorem inB_true {n l m : Int} (h : inB n l m = true) : l ≤ n ∧ n ≤ m := by simpa [inB] using h
theorem inB_mk {n l m : Int} (h1 : l ≤ n) (h2 : n ≤ m) : inB n l m = true := by simp [inB, h1, h2]
theorem inB_no {n l m : Int} (h : n < l ∨ m < n) : inB n l m = false := by
  cases e : inB n l m
  · rfl
  · have := inB_true e; omega

theorem bcell {W w1 : World} (hb : Below W.heap.size W w1) : (∀ b o, b < W.heap.size → w1.cell? ⟨b, o, none⟩ = W.cell? ⟨b, o, none⟩) ∧ (∀ b o, b < W.heap.size → w1.frozen? ⟨b, o, none⟩ = W.frozen? ⟨b, o, none⟩) :=
  ⟨fun b o h => hb.cell (p := ⟨b, o, none⟩) h, fun b o h => hb.frozen (p := ⟨b, o, none⟩) h⟩
theorem bal {w a : World} (h : Below w.heap.size w a) (o : Obj) : Below w.heap.size w (a.alloc o) := h.alloc h.size o
theorem bal0 (w : World) (o : Obj) : Below w.heap.size w (w.alloc o) := (Below.refl _ _).alloc (Nat.le_refl _) _
/-- behind a new block and a call -/
theorem bac {w a : World} {o : Obj} (h : Below (w.alloc o).heap.size (w.alloc o) a) : Below w.heap.size w a := bt (bal0 w o) h
theorem retBI_mk {w w' : World} {A : Option Addr} {n c : Nat} {l : List UInt8} {k : Int} (hn : n = l.length) (ho : Own w' w.heap.size A c l) (hb : Below w.heap.size w w') : RetBI w l k (.returned (.tuple #[.slice A n c, .int .i64 k])) w' :=
  ⟨A, c, by rw [hn], ho, hb⟩
theorem retB_mk {w w' : World} {A : Option Addr} {n c : Nat} {l : List UInt8} (hn : n = l.length) (ho : Own w' w.heap.size A c l) (hb : Below w.heap.size w w') : RetB w l (.returned (.slice A n c)) w' :=
  ⟨A, c, by rw [hn], ho, hb⟩
theorem getN_byte (l : List UInt8) (i : Nat) (h : i < l.length) : getN l i 1 = (l[i].toNat : Int) := by
  have he : getE l i 1 = 0 := by
    unfold getE
    rw [show isWidth 1 = true from rfl, if_neg (by simp), if_neg (by omega), if_neg (by omega)]
  unfold getN
  rw [he, if_pos rfl, Int.toNat_natCast, List.drop_eq_getElem_cons h, show (1 : Int).toNat = 1 from rfl, List.take_succ_cons, List.take_zero]
  simp [leN]
theorem rd_byte {w : World} {b o : Nat} {l : List UInt8} (hc : ∀ (i : Nat) (h : i < l.length), w.cell? ⟨b, o + i, none⟩ = some (.int .u8 (l[i].toNat : Int))) (i : Nat) (h : i < l.length) :
    ∃ y : Nat, y < 256 ∧ w.cell? ⟨b, o + i, none⟩ = some (.int .u8 (y : Int)) ∧ Hid ((y : Int) = getN l i 1) :=
  ⟨l[i].toNat, l[i].toNat_lt, hc i h, Lib.hid (getN_byte l i h).symm⟩
theorem getN_mid {a b c : List UInt8} {W : Nat} (hw : isWidth W = true) (hb : b.length = W) : getN (a ++ (b ++ c)) a.length W = (leN b : Nat) := by
  have he : getE (a ++ (b ++ c)) a.length W = 0 := by
    unfold getE
    rw [hw, if_neg (by simp), if_neg (by simp; omega), if_neg (by simp; omega)]
  unfold getN
  rw [he, if_pos rfl]
  simp [← hb]
theorem getN_part {l : List UInt8} {o w : Nat} (hw : isWidth w = true) (h : o + w ≤ l.length) : leB w (getN l o w).toNat = (l.drop o).take w := by
  have he : getE l o w = 0 := by
    unfold getE
    rw [hw, if_neg (by simp), if_neg (by omega), if_neg (by omega)]
  unfold getN
  rw [he, if_pos rfl, Int.toNat_natCast, Int.toNat_natCast, Int.toNat_natCast]
  have := leB_leN ((l.drop o).take w)
  rwa [show ((l.drop o).take w).length = w by simp; omega] at this
theorem getN_bd (l : List UInt8) (o : Int) (w : Nat) : 0 ≤ getN l o w ∧ getN l o w < 256 ^ w := by
  unfold getN
  split
  · have := leN_take_lt l o.toNat w
    rw [Int.toNat_natCast]
    have h2 : ((leN ((l.drop o.toNat).take w) : Nat) : Int) < ((256 ^ w : Nat) : Int) := by omega
    rw [Int.natCast_pow] at h2
    exact ⟨by omega, h2⟩
  · exact ⟨by omega, by have : (0 : Int) < ((256 ^ w : Nat) : Int) := by have := Nat.pow_pos (n := w) (show 0 < 256 by omega); omega
                        rwa [Int.natCast_pow] at this⟩
theorem putL_one {n : Int} (h0 : 0 ≤ n) (h : n < 256) : putL 1 n = leB 1 n.toNat := by
  unfold putL
  rw [show fitsB 1 n = true by simp [fitsB, many, h0, h]]
  rfl
theorem putL_six {n : Int} (h0 : 0 ≤ n) (h : n < 281474976710656) : putL 6 n = leB 6 n.toNat := by
  unfold putL
  rw [show fitsB 6 n = true by simp [fitsB, many, h0, h]]
  rfl
theorem putL_two {n : Int} (h0 : 0 ≤ n) (h : n < 65536) : putL 2 n = leB 2 n.toNat := by
  unfold putL
  rw [show fitsB 2 n = true by simp [fitsB, many, h0, h]]
  rfl
theorem putL_four {n : Int} (h0 : 0 ≤ n) (h : n < 4294967296) : putL 4 n = leB 4 n.toNat := by
  unfold putL
  rw [show fitsB 4 n = true by simp [fitsB, many, h0, h]]
  rfl
theorem putL_length6 (width n : Int) : (putL width n).length ≤ 6 := by
  unfold putL
  split
  · rename_i h
    have := fitsB_true h
    rw [leB_length]; omega
  · simp
theorem u64_tmod (x : Int) (m : Int) (hm : 0 < m) : ∃ k : Nat, (IntKind.u64.wrap x).tmod m = k ∧ (k : Int) < m := by
  have h0 : 0 ≤ IntKind.u64.wrap x := by
    simp only [IntKind.wrap_u64]
    omega
  rw [Int.tmod_eq_emod_of_nonneg h0]
  have h1 := Int.emod_nonneg (IntKind.u64.wrap x) (show m ≠ 0 by omega)
  have h2 := Int.emod_lt_of_pos (IntKind.u64.wrap x) hm
  exact ⟨(IntKind.u64.wrap x % m).toNat, by omega, by omega⟩
theorem same_self (A B : Option Addr) (c d : Nat) (l : List UInt8) (n k : Nat) (w : World) (hl : Rd w A l) (hm : Rd w B l) (hc : l.length ≤ maxLen) (hn : n = l.length) (hk : k = l.length) :
    Calls Try.prog 15 #[.slice A n c, .slice B k d] w (RetV w (.bool true)) := by
  have := same_n A B c d l l n k w hl hm hc hc hn hk
  rwa [eqB_self] at this
theorem copy_n (A : Option Addr) (c : Nat) (l : List UInt8) (n : Nat) (w : World) (hl : Rd w A l) (hc : l.length ≤ 140737488355328) (hn : n = l.length) :
    Calls Try.prog 10 #[.slice A n c] w (RetB w l) := by
  subst hn
  exact copy_any A c l w hl hc
end Go.Proofs.Ytanpglhpmfdnmaa
