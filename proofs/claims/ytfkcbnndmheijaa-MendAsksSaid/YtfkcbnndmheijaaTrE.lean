/-
  ARGUMENTS OPENED: entries, slices of entries.
-/
import Derived.Test.YtfkcbnndmheijaaTr
import Derived.Test.YtfkcbnndmheijaaEntC
namespace Go.Proofs.Ytfkcbnndmheijaa
open Go.ChangeShapes Go.WideShapes Go.ChangeAt Go.RowKit
set_option linter.unusedVariables false

theorem list7 {α : Type} {l : List α} (h : l.length = 7) : ∃ a b c d e f g, l = [a, b, c, d, e, f, g] := by
  match l, h with
  | [a, b, c, d, e, f, g], _ => exact ⟨a, b, c, d, e, f, g, rfl⟩
section
variable {H : Type} {enc : TypeId × Value → H} {w : World} {base : Nat}
theorem Tr.entry {cs : List Value} (h : Tr enc Try.prog w base 38 cs) (hl : cs.length = 7) : ∃ e : En, cs = enC e ∧ Sm e ∧ U8 e := by
  obtain ⟨a, b, c, d, e, f, g, rfl⟩ := list7 hl
  have h0 : Tr enc Try.prog w base 5 [a] := h.field Try.underlying38 0 rfl 1 (by kernel_rfl)
  have h1 : Tr enc Try.prog w base 3 [b] := h.field Try.underlying38 1 rfl 1 (by kernel_rfl)
  have h2 : Tr enc Try.prog w base 3 [c] := h.field Try.underlying38 2 rfl 1 (by kernel_rfl)
  have h3 : Tr enc Try.prog w base 36 [d, e, f, g] := h.field Try.underlying38 3 rfl 4 (by kernel_rfl)
  have h4 : Tr enc Try.prog w base 5 [d] := h3.field Try.underlying36 0 rfl 1 (by kernel_rfl)
  have h5 : Tr enc Try.prog w base 9 [e] := h3.field Try.underlying36 1 rfl 1 (by kernel_rfl)
  have h6 : Tr enc Try.prog w base 9 [f] := h3.field Try.underlying36 2 rfl 1 (by kernel_rfl)
  have h7 : Tr enc Try.prog w base 9 [g] := h3.field Try.underlying36 3 rfl 1 (by kernel_rfl)
  obtain ⟨k, rfl, hk⟩ := h0.uint rfl Try.underlying5
  obtain ⟨c0, rfl, _, _⟩ := h1.i64 Try.underlying3
  obtain ⟨s, rfl, _, _⟩ := h2.i64 Try.underlying3
  obtain ⟨ok, rfl, hok⟩ := h4.uint rfl Try.underlying5
  obtain ⟨s0, rfl, z0⟩ := h5.str Try.underlying9
  obtain ⟨s1, rfl, z1⟩ := h6.str Try.underlying9
  obtain ⟨s2, rfl, z2⟩ := h7.str Try.underlying9
  simp only [IntKind.bits] at hk hok
  exact ⟨⟨k, c0, s, ok, s0, s1, s2⟩, rfl, ⟨z0, z1, z2⟩, ⟨by show (0 : Int) ≤ k; omega, by show (k : Int) < 256; omega, by show (0 : Int) ≤ ok; omega, by show (ok : Int) < 256; omega⟩⟩
/-- a slice that reads as these entries -/
def REn (w : World) (A : Option Addr) (es : List En) : Prop := es ≠ [] → ∃ b o, A = some ⟨b, o, none⟩ ∧ ∀ (i : Nat) (h : i < es.length), w.rangeAt b (o + i * 7) (enC es[i])
theorem Tr.ents {t : TypeId} {c : Value} (h : Tr enc Try.prog w base t [c]) (ht : Try.prog.underlying t = some (.slice 38)) :
    ∃ (A : Option Addr) (cap : Nat) (es : List En), c = .slice A es.length cap ∧ REn w A es ∧ (∀ e ∈ es, Sm e ∧ U8 e) ∧ es.length ≤ cap ∧ cap ≤ maxLen := by
  obtain ⟨A, n, cap, rfl, hl, hm, hg⟩ := h.slice ht 7 (by kernel_rfl)
  by_cases h0 : n = 0
  · subst h0
    exact ⟨A, cap, [], rfl, fun h => absurd rfl h, (by simp), hl, hm⟩
  · obtain ⟨a, rfl, hg2⟩ := hg (by omega)
    have hx : ∀ i, ∃ e : En, i < n → ((∀ j, j < 7 → w.cell? (a.add (i * 7 + j)) = (enC e)[j]?) ∧ Sm e ∧ U8 e) := by
      intro i
      by_cases hi : i < n
      · obtain ⟨cs, hcl, hcc, htr⟩ := hg2 i hi
        obtain ⟨e, rfl, h1, h2⟩ := htr.entry hcl
        exact ⟨e, fun _ => ⟨hcc, h1, h2⟩⟩
      · exact ⟨en0, fun h => absurd h hi⟩
    obtain ⟨f, hx'⟩ : ∃ f : Nat → En, ∀ i, i < n → ((∀ j, j < 7 → w.cell? (a.add (i * 7 + j)) = (enC (f i))[j]?) ∧ Sm (f i) ∧ U8 (f i)) := ⟨fun i => Classical.choose (hx i), fun i => Classical.choose_spec (hx i)⟩
    refine ⟨some a, cap, (List.range n).map f, by simp, ?_, ?_, by simpa using hl, hm⟩
    · intro _
      obtain ⟨b, o, spot⟩ := a
      have h1 := (hx' 0 (by omega)).1 0 (by omega)
      have hspot : spot = none := by
        have h2 : w.cell? (Addr.add ⟨b, o, spot⟩ (0 * 7 + 0)) = some (.int .u8 (f 0).k) := h1
        simpa [Addr.add] using World.cell?_spot h2
      subst hspot
      refine ⟨b, o, rfl, fun i hi => ?_⟩
      have hi' : i < n := by simpa using hi
      intro j v hj
      have h7 : j < 7 := by
        have := (List.getElem?_eq_some_iff.1 hj).1
        exact this
      have := (hx' i hi').1 j h7
      rw [Addr.add_lit] at this
      rw [Nat.add_assoc, this]
      simpa using hj
    · intro e he
      obtain ⟨i, hi, rfl⟩ := List.mem_map.1 he
      exact (hx' i (by simpa using hi)).2
end
end Go.Proofs.Ytfkcbnndmheijaa
