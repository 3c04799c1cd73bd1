/-
  THE WALKS OF OCTET AND ITS REFERENCE: what each call answers; nothing that was there is written.
-/
import Derived.Test.YtanpglhpmfdnmaaOctPlain
namespace Go.Proofs.Ytanpglhpmfdnmaa
open Go.RowKit

/-- the error of a part -/
def pieceE (l : List UInt8) (at_ n : Int) : Int := if at_ < 0 ∨ (l.length : Int) < at_ then 2 else if (l.length : Int) - at_ < n then 10 else 0

theorem getE_one (l : List UInt8) (at_ : Int) : getE l at_ 1 = pieceE l at_ 1 := by simp [getE, pieceE, isWidth]
theorem getE_piece {l : List UInt8} {at_ width : Int} (h : isWidth width = true) : getE l at_ width = pieceE l at_ width := by simp [getE, pieceE, h]

/-- a number, a place, an error -/
def RetG (w : World) (n p e : Int) : Ending → World → Prop := RetV w (.tuple #[.int .i64 n, .int .i64 p, .int .i64 e])

theorem take_rev_step (l : List UInt8) (W k : Nat) (hW : l.length = W) (hk : k < W) :
    leN (l.drop (W - (k + 1))) = leN (l.drop (W - k)) * 256 + (l[W - 1 - k]'(by omega)).toNat := by
  have e : l.drop (W - (k + 1)) = (l[W - 1 - k]'(by omega)) :: l.drop (W - k) := by
    rw [show W - (k + 1) = W - 1 - k by omega, List.drop_eq_getElem_cons (by omega), show W - 1 - k + 1 = W - k by omega]
  rw [e, leN]; omega

theorem or_byte (n c : Nat) (hc : c < 256) : (n * 256 ||| c) = n * 256 + c := by
  have := Nat.two_pow_add_eq_or_of_lt (i := 8) (b := c) (by omega) n
  rw [Nat.mul_comm] at this
  exact this.symm

end Go.Proofs.Ytanpglhpmfdnmaa
