/-
  ARGUMENTS OPENED: a slice of int.
-/
import Derived.Test.YtfkcbnndmheijaaTr
namespace Go.Proofs.Ytfkcbnndmheijaa
open Go.ChangeShapes Go.WideShapes Go.ChangeAt Go.RowKit
set_option linter.unusedVariables false

section
variable {H : Type} {enc : TypeId × Value → H} {P : Program} {w : World} {base : Nat}
theorem Tr.ints {t e : TypeId} {c : Value} (h : Tr enc P w base t [c]) (ht : P.underlying t = some (.slice e)) (he : P.underlying e = some (.int .i64)) (hs : P.cellsOf e = 1) :
    ∃ (A : Option Addr) (cap : Nat) (l : List Int), c = .slice A l.length cap ∧ (l ≠ [] → ∃ b o, A = some ⟨b, o, none⟩ ∧ ∀ (i : Nat) (h : i < l.length), w.cell? ⟨b, o + i, none⟩ = some (.int .i64 l[i])) ∧ l.length ≤ cap ∧ cap ≤ maxLen := by
  obtain ⟨A, n, cap, rfl, hl, hm, hg⟩ := h.slice ht 1 hs
  by_cases h0 : n = 0
  · subst h0
    exact ⟨A, cap, [], rfl, fun h => absurd rfl h, hl, hm⟩
  · obtain ⟨a, rfl, hg2⟩ := hg (by omega)
    have hx : ∀ i, ∃ x : Int, i < n → w.cell? (a.add i) = some (.int .i64 x) := by
      intro i
      by_cases hi : i < n
      · obtain ⟨cs, hcl, hcc, htr⟩ := hg2 i hi
        match cs, hcl with
        | [c0], _ =>
          obtain ⟨k, rfl, _, _⟩ := htr.i64 he
          refine ⟨k, fun _ => ?_⟩
          have := hcc 0 (by omega)
          rw [Nat.mul_one, Nat.add_zero] at this
          rw [this]
          rfl
      · exact ⟨0, fun h => absurd h hi⟩
    obtain ⟨f, hx'⟩ : ∃ f : Nat → Int, ∀ i, i < n → w.cell? (a.add i) = some (.int .i64 (f i)) := ⟨fun i => Classical.choose (hx i), fun i => Classical.choose_spec (hx i)⟩
    refine ⟨some a, cap, (List.range n).map f, by simp, ?_, by simpa using hl, hm⟩
    intro _
    obtain ⟨b, o, spot⟩ := a
    have h1 := hx' 0 (by omega)
    have hspot : spot = none := by simpa [Addr.add] using World.cell?_spot h1
    subst hspot
    refine ⟨b, o, rfl, fun i hi => ?_⟩
    have := hx' i (by simpa using hi)
    rw [Addr.add_lit] at this
    rw [this]
    simp
end
end Go.Proofs.Ytfkcbnndmheijaa
