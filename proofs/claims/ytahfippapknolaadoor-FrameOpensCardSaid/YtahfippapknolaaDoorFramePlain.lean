/-
  PLAIN: what a frame is. No program in sight.
-/
import Derived.Test.YtahfippapknolaaDoorTagPlain
import Derived.Test.YtahfippapknolaaDoorCrcPlain
namespace Go.Proofs.YtahfippapknolaaDoor

def roomI (s : Int) : Int := if s = 1 then 43 else if s = 2 then 88 else 0
/-- a frame's bytes ahead of the noughts -/
def preL (o l : List UInt8) : List UInt8 := putL 2 l.length ++ (o ++ l)
/-- .. with them, without the sum -/
def padL (n : Nat) (p : List UInt8) : List UInt8 := p ++ List.replicate (n - p.length) 0
/-- the frame of a tag's form and a body in so many bytes -/
def frmL (n : Nat) (o l : List UInt8) : List UInt8 := padL (n - 4) (preL o l) ++ putL 4 (sum (padL (n - 4) (preL o l)) : Nat)
def sealE (m : Bool) (l : List UInt8) (s : Int) : Int := if m = false ∨ roomI s = 0 then 2 else if roomI s < l.length then 3 else 0
def sealL (rp rg pl ix ic : Int) (l : List UInt8) (s : Int) : List UInt8 := if sealE (mayB rp rg pl ix ic) l s = 0 then frmL (64 * s).toNat (tagL rp rg pl ix ic) l else []
theorem preL_length (o l : List UInt8) (ho : o.length = 15) (hl : l.length < 65536) : (preL o l).length = 17 + l.length := by
  unfold preL
  rw [putL_two (by omega) (by omega)]
  simp [leB_length, ho]
  omega
theorem padL_length (n : Nat) (p : List UInt8) (h : p.length ≤ n) : (padL n p).length = n := by simp [padL]; omega
theorem frmL_length (n : Nat) (o l : List UInt8) (ho : o.length = 15) (hn : 21 + l.length ≤ n) (h2 : l.length < 65536) : (frmL n o l).length = n := by
  unfold frmL
  have := preL_length o l ho h2
  have h3 := sum_lt (padL (n - 4) (preL o l))
  rw [List.length_append, padL_length _ _ (by omega), putL_four (by omega) (by omega), leB_length]
  omega
theorem roomI_cases {s : Int} (h : roomI s ≠ 0) : (s = 1 ∧ roomI s = 43) ∨ (s = 2 ∧ roomI s = 88) := by
  unfold roomI at *
  split at h
  · rename_i e; exact .inl ⟨e, by rw [if_pos e]⟩
  split at h
  · rename_i e1 e2; exact .inr ⟨e2, by rw [if_neg e1, if_pos e2]⟩
  · exact absurd rfl h
end Go.Proofs.YtahfippapknolaaDoor
