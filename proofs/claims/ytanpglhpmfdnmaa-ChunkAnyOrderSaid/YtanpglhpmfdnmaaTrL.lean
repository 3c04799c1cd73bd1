/-
  AN ARGUMENT OF LISTS OF BYTES.
-/
import Derived.Test.YtanpglhpmfdnmaaTr
namespace Go.Proofs.Ytanpglhpmfdnmaa
open Go.ChangeShapes Go.WideShapes Go.ChangeAt Go.RowKit
set_option linter.unusedVariables false
section
variable {H : Type} {enc : TypeId × Value → H} {w : World} {base : Nat}
theorem Tr.lists {c : Value} (h : Tr enc Try.prog w base 61 [c]) :
    ∃ (A : Option Addr) (cap : Nat) (ls : List (List UInt8)), c = .slice A ls.length cap ∧ RdL w A ls ∧ (∀ x ∈ ls, x.length ≤ maxLen) ∧ ls.length ≤ cap ∧ cap ≤ maxLen := by
  obtain ⟨A, n, cap, rfl, hl, hm, hg⟩ := h.slice Try.underlying61 1 (by kernel_rfl)
  by_cases h0 : n = 0
  · subst h0
    exact ⟨A, cap, [], rfl, fun h => absurd rfl h, by simp, hl, hm⟩
  · obtain ⟨a, rfl, hg2⟩ := hg (by omega)
    have hx : ∀ i, ∃ (x : Option Addr × Nat × List UInt8), i < n → (w.cell? (a.add i) = some (.slice x.1 x.2.2.length x.2.1) ∧ Rd w x.1 x.2.2 ∧ x.2.2.length ≤ maxLen) := by
      intro i
      by_cases hi : i < n
      · obtain ⟨cs, hcl, hcc, htr⟩ := hg2 i hi
        match cs, hcl with
        | [c0], _ =>
          obtain ⟨B, d, l, rfl, hr, hc, hm⟩ := htr.bytes Try.underlying22 Try.underlying5 (by kernel_rfl)
          refine ⟨(B, d, l), fun _ => ⟨?_, hr, Nat.le_trans hc hm⟩⟩
          have := hcc 0 (by omega)
          rw [Nat.mul_one, Nat.add_zero] at this
          rw [this]
          rfl
      · exact ⟨(none, 0, []), fun h => absurd h hi⟩
    obtain ⟨f, hx'⟩ : ∃ f : Nat → Option Addr × Nat × List UInt8, ∀ i, i < n → (w.cell? (a.add i) = some (.slice (f i).1 (f i).2.2.length (f i).2.1) ∧ Rd w (f i).1 (f i).2.2 ∧ (f i).2.2.length ≤ maxLen) := ⟨fun i => Classical.choose (hx i), fun i => Classical.choose_spec (hx i)⟩
    refine ⟨some a, cap, (List.range n).map fun i => (f i).2.2, by simp, ?_, ?_, by simpa using hl, hm⟩
    · intro _
      obtain ⟨b, o, spot⟩ := a
      have h1 := (hx' 0 (by omega)).1
      have hspot : spot = none := by simpa [Addr.add] using World.cell?_spot h1
      subst hspot
      refine ⟨b, o, rfl, fun i hi => ?_⟩
      have hi' : i < n := by simpa using hi
      obtain ⟨h2, h3, _⟩ := hx' i hi'
      rw [Addr.add_lit] at h2
      refine ⟨(f i).1, (f i).2.1, ?_, ?_⟩
      · rw [h2]; simp
      · simpa using h3
    · intro x hxm
      obtain ⟨i, hi, rfl⟩ := List.mem_map.1 hxm
      exact (hx' i (by simpa using hi)).2.2
end
end Go.Proofs.Ytanpglhpmfdnmaa
