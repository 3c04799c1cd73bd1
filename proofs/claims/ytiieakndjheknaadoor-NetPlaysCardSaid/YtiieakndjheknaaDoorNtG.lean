/-
  THE WALKS OF sextonlaw28's fetch, all; what a net does with the chapter's messages.
-/
import Derived.Test.YtiieakndjheknaaDoorNtF
namespace Go.Proofs.YtiieakndjheknaaDoor
set_option maxRecDepth 100000
open Go.RowKit
set_option linter.unusedVariables false
set_option linter.unusedSimpArgs false
/-- the chapter's messages -/
def ftM (a b i : Int) : Mg := { mg0 with k := 10, fr := a, to := b, ix := i }
def ftX (a b i : Int) : MX := ⟨ftM a b i, [], []⟩
theorem ft_r (a b i : Int) (w : World) : MgR w (ftM a b i) [] [] := ⟨rfl, fun h => absurd rfl h, by simp, Nat.le_refl _, Nat.zero_le _, rfl, Rd.nil _ _, Nat.le_refl _, Nat.zero_le _⟩
theorem i64_0 : I64 0 := ⟨by decide, by decide⟩
theorem ft_n {a b i : Int} (ha : I64 a) (hb : I64 b) (hi : I64 i) : MgN (ftM a b i) :=
  have z : (0 : Int) ≤ 0 ∧ (0 : Int) < 256 := ⟨by decide, by decide⟩
  have t : (0 : Int) ≤ 10 ∧ (10 : Int) < 256 := ⟨by decide, by decide⟩
  have e0 : (0 : Nat) ≤ maxLen := Nat.zero_le _
  ⟨t, ha, hb, i64_0, i64_0, hi, i64_0, i64_0, i64_0, i64_0, i64_0, ⟨e0, e0, e0⟩, ⟨z.1, z.2, z.1, z.2⟩, i64_0, i64_0, z, e0, e0, e0, i64_0, e0⟩
theorem ft_ok {a b i : Int} (ha : I64 a) (hb : I64 b) (hi : I64 i) : OkX ⟨ftM a b i, [], []⟩ := ⟨rfl, rfl, ft_n ha hb hi, by simp, Nat.zero_le _, Nat.zero_le _⟩
/-! slices of int that are built -/
/-! all -/
end Go.Proofs.YtiieakndjheknaaDoor
