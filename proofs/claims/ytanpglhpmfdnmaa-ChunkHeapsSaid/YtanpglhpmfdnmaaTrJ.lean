/-
  AN ARGUMENT OF ACTS.
-/
import Derived.Test.YtanpglhpmfdnmaaTr
namespace Go.Proofs.Ytanpglhpmfdnmaa
open Go.ChangeShapes Go.WideShapes Go.ChangeAt Go.RowKit
set_option linter.unusedVariables false
/-- an act: lose, the number, the bytes -/
structure Ac where
  b : Bool
  k : Int
  A : Option Addr
  c : Nat
  l : List UInt8
def acC (x : Ac) : List Value := [.bool x.b, .int .i64 x.k, .slice x.A x.l.length x.c]
def AcOk (x : Ac) : Prop := (-9223372036854775808 ≤ x.k ∧ x.k ≤ 9223372036854775807) ∧ x.l.length ≤ maxLen
def RAc (w : World) (A : Option Addr) (l : List Ac) : Prop := l ≠ [] → ∃ b o, A = some ⟨b, o, none⟩ ∧ ∀ i (h : i < l.length), (∀ j v, (acC l[i])[j]? = some v → w.cell? ⟨b, o + i * 3 + j, none⟩ = some v) ∧ Rd w l[i].A l[i].l
theorem RAc.below {w w' : World} {A : Option Addr} {l : List Ac} (h : RAc w A l) (hb : Below w.heap.size w w') : RAc w' A l := by
  intro hn
  obtain ⟨b, o, e, hc⟩ := h hn
  exact ⟨b, o, e, fun i hi => ⟨fun j v hj => (hb.cell (World.block_lt_of_cell? _ _ ((hc i hi).1 j v hj))).trans ((hc i hi).1 j v hj), (hc i hi).2.below hb⟩⟩
section
variable {H : Type} {enc : TypeId × Value → H} {w : World} {base : Nat}
theorem Tr.act {cs : List Value} (h : Tr enc Try.prog w base 55 cs) (hl : cs.length = 3) : ∃ x : Ac, cs = acC x ∧ AcOk x ∧ Rd w x.A x.l := by
  match cs, hl with
  | [x0, x1, x2], _ =>
    have f0 : Tr enc Try.prog w base 4 [x0] := h.field Try.underlying55 0 rfl 1 (by kernel_rfl)
    have f1 : Tr enc Try.prog w base 3 [x1] := h.field Try.underlying55 1 rfl 1 (by kernel_rfl)
    have f2 : Tr enc Try.prog w base 22 [x2] := h.field Try.underlying55 2 rfl 1 (by kernel_rfl)
    obtain ⟨b, rfl⟩ := f0.bool Try.underlying4
    obtain ⟨k, rfl, n0, n1⟩ := f1.i64 Try.underlying3
    obtain ⟨A, c, l, rfl, hr, hc, hm⟩ := f2.bytes Try.underlying22 Try.underlying5 (by kernel_rfl)
    exact ⟨⟨b, k, A, c, l⟩, rfl, ⟨⟨n0, n1⟩, Nat.le_trans hc hm⟩, hr⟩
theorem Tr.acts {c : Value} (h : Tr enc Try.prog w base 48 [c]) :
    ∃ (A : Option Addr) (cap : Nat) (rs : List Ac), c = .slice A rs.length cap ∧ RAc w A rs ∧ (∀ x ∈ rs, AcOk x) ∧ rs.length ≤ cap ∧ cap ≤ maxLen := by
  obtain ⟨A, n, cap, rfl, hl, hm, hg⟩ := h.slice Try.underlying48 3 (by kernel_rfl)
  by_cases h0 : n = 0
  · subst h0
    exact ⟨A, cap, [], rfl, fun h => absurd rfl h, (by simp), hl, hm⟩
  · obtain ⟨a, rfl, hg2⟩ := hg (by omega)
    have hx : ∀ i, ∃ x : Ac, i < n → ((∀ j, j < 3 → w.cell? (a.add (i * 3 + j)) = (acC x)[j]?) ∧ AcOk x ∧ Rd w x.A x.l) := by
      intro i
      by_cases hi : i < n
      · obtain ⟨cs, hcl, hcc, htr⟩ := hg2 i hi
        obtain ⟨e, rfl, h1, h2⟩ := htr.act hcl
        exact ⟨e, fun _ => ⟨hcc, h1, h2⟩⟩
      · exact ⟨⟨false, 0, none, 0, []⟩, fun h => absurd h hi⟩
    obtain ⟨f, hx'⟩ : ∃ f : Nat → Ac, ∀ i, i < n → ((∀ j, j < 3 → w.cell? (a.add (i * 3 + j)) = (acC (f i))[j]?) ∧ AcOk (f i) ∧ Rd w (f i).A (f i).l) := ⟨fun i => Classical.choose (hx i), fun i => Classical.choose_spec (hx i)⟩
    refine ⟨some a, cap, (List.range n).map f, by simp, ?_, ?_, by simpa using hl, hm⟩
    · intro _
      obtain ⟨b, o, spot⟩ := a
      have h1 := (hx' 0 (by omega)).1 0 (by omega)
      have hspot : spot = none := by
        have h2 : w.cell? (Addr.add ⟨b, o, spot⟩ (0 * 3 + 0)) = some (.bool (f 0).b) := h1
        simpa [Addr.add] using World.cell?_spot h2
      subst hspot
      refine ⟨b, o, rfl, fun i hi => ⟨?_, ?_⟩⟩
      · have hi' : i < n := by simpa using hi
        intro j v hj
        have h7 : j < 3 := by
          have := (List.getElem?_eq_some_iff.1 hj).1
          exact this
        have := (hx' i hi').1 j h7
        rw [Addr.add_lit] at this
        rw [Nat.add_assoc, this]
        simpa using hj
      · have hi' : i < n := by simpa using hi
        simpa using (hx' i hi').2.2
    · intro e he
      obtain ⟨i, hi, rfl⟩ := List.mem_map.1 he
      exact (hx' i (by simpa using hi)).2.1
end
end Go.Proofs.Ytanpglhpmfdnmaa
