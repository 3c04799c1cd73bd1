/-
  ARGUMENTS OPENED, MORE: structs, arrays, slices of whatever elements: a list of cells that reads as a value of a type.
-/
import Derived.Test.YtanpglhpmfdnmaaOpen
import Derived.OpenShut
namespace Go.Proofs.Ytanpglhpmfdnmaa
open Go.ChangeShapes Go.WideShapes Go.ChangeAt Go.RowKit
open Go.ChangeMaps (open_string shut_string)
set_option linter.unusedVariables false

section
variable {H : Type} {enc : TypeId × Value → H} {P : Program} {w : World} {base : Nat} {r : Reach} {b0 : Nat}

/-- these cells read as a value of the type t -/
def Tr (enc : TypeId × Value → H) (P : Program) (w : World) (base : Nat) (t : TypeId) (cs : List Value) : Prop := ∃ n x, DataW.trod enc P w base (fun _ => true) true n t cs = some x

theorem Tr.of {t : TypeId} {v : Value} {d : DataW H} {ps : List MemPlace} (hd : DataW.Trod enc P w base (fun _ => true) true t v d ps) : Tr enc P w base t v.cells.toList := by
  obtain ⟨n, hn⟩ := hd
  exact ⟨n, _, hn⟩
theorem Tr.field {t : TypeId} {cs : List Value} {fs : Array Field} (h : Tr enc P w base t cs) (ht : P.underlying t = some (.struct fs)) (j : Nat) {f : Field} (hf : fs[j]? = some f) (s : Nat) (hs : P.cellsOf f.type = s) :
    Tr enc P w base f.type ((cs.drop f.offset).take s) := by
  obtain ⟨n, x, hn⟩ := h
  obtain ⟨xs, m, _, _, _, hl, hg⟩ := DataW.trod_struct ht hn
  have h1 := hg j f hf
  have hj : j < fs.size := (Array.getElem?_eq_some_iff.1 hf).1
  rw [hs, List.getElem?_eq_getElem (by omega)] at h1
  exact ⟨m, _, h1⟩
theorem Tr.elem {t e : TypeId} {k : Nat} {cs : List Value} (h : Tr enc P w base t cs) (ht : P.underlying t = some (.array k e)) (i : Nat) (hi : i < k) (s : Nat) (hs : P.cellsOf e = s) :
    Tr enc P w base e ((cs.drop (i * s)).take s) := by
  obtain ⟨n, x, hn⟩ := h
  obtain ⟨xs, m, _, _, _, hl, hg⟩ := DataW.trod_array ht hn
  have h1 := hg i hi
  rw [hs, List.getElem?_eq_getElem (by omega)] at h1
  exact ⟨m, _, h1⟩
theorem Tr.len {t : TypeId} {cs : List Value} {fs : Array Field} (h : Tr enc P w base t cs) (ht : P.underlying t = some (.struct fs)) : cs.length = P.cellsOf t := by
  obtain ⟨n, x, hn⟩ := h
  obtain ⟨_, _, _, _, hl, _⟩ := DataW.trod_struct ht hn
  exact hl
theorem Tr.i64 {t : TypeId} {c : Value} (h : Tr enc P w base t [c]) (ht : P.underlying t = some (.int .i64)) : ∃ n : Int, c = .int .i64 n ∧ -9223372036854775808 ≤ n ∧ n ≤ 9223372036854775807 := by
  obtain ⟨_, x, hn⟩ := h
  obtain ⟨n, hc, _, hw⟩ := DataW.trod_int ht hn
  simp [Lit.wf, IntKind.min, IntKind.max, IntKind.signed, IntKind.bits] at hw
  exact ⟨n, by simpa using hc, by omega, by omega⟩
theorem Tr.uint {k : IntKind} {t : TypeId} {c : Value} (h : Tr enc P w base t [c]) (hk : k.signed = false) (ht : P.underlying t = some (.int k)) : ∃ n : Nat, c = .int k n ∧ n < 2 ^ k.bits := by
  obtain ⟨_, x, hn⟩ := h
  obtain ⟨n, hc, _, hw⟩ := DataW.trod_int ht hn
  simp [Lit.wf, IntKind.min, IntKind.max, hk] at hw
  refine ⟨n.toNat, ?_, ?_⟩
  · have : c = .int k n := by simpa using hc
    rw [this]; congr; omega
  have h2 : n < 2 ^ k.bits := by omega
  have h3 : ((n.toNat : Nat) : Int) < ((2 ^ k.bits : Nat) : Int) := by
    rw [Int.toNat_of_nonneg hw.1]
    simpa using h2
  omega
theorem Tr.bool {t : TypeId} {c : Value} (h : Tr enc P w base t [c]) (ht : P.underlying t = some .bool) : ∃ b : Bool, c = .bool b := by
  obtain ⟨_, x, hn⟩ := h
  obtain ⟨b, hc, _⟩ := DataW.trod_bool ht hn
  exact ⟨b, by simpa using hc⟩
theorem Tr.str {t : TypeId} {c : Value} (h : Tr enc P w base t [c]) (ht : P.underlying t = some .string) : ∃ s : ByteArray, c = .string s ∧ s.size ≤ maxLen := by
  obtain ⟨_, x, hn⟩ := h
  obtain ⟨s, hc, _, hs⟩ := DataW.trod_string ht hn
  exact ⟨s, by simpa using hc, hs⟩
/-- a slice: of each element the cells read -/
theorem Tr.slice {t e : TypeId} {c : Value} (h : Tr enc P w base t [c]) (ht : P.underlying t = some (.slice e)) (s : Nat) (hs : P.cellsOf e = s) :
    ∃ (A : Option Addr) (n cap : Nat), c = .slice A n cap ∧ n ≤ cap ∧ cap ≤ maxLen ∧ (0 < n → ∃ a : Addr, A = some a ∧ ∀ i, i < n → ∃ cs : List Value, cs.length = s ∧ (∀ j, j < s → w.cell? (a.add (i * s + j)) = cs[j]?) ∧ Tr enc P w base e cs) := by
  obtain ⟨_, x, hn⟩ := h
  rcases DataW.trod_slice ht hn with ⟨hc, _⟩ | ⟨a, len, cap, elems, rest, m, _, hc, _, hb, hl, hm, hlen, hg, _, _⟩
  · exact ⟨none, 0, 0, by simpa using hc, Nat.le_refl _, Nat.zero_le _, fun h => absurd h (by omega)⟩
  · refine ⟨some a, len, cap, by simpa using hc, hl, hm, fun _ => ⟨a, rfl, fun i hi => ?_⟩⟩
    have h1 := hg i hi
    rw [List.getElem?_eq_getElem (by omega), Option.bind_eq_some_iff] at h1
    obtain ⟨cs, h2, h3⟩ := h1
    rw [hs] at h2
    obtain ⟨_, h4, h5⟩ := World.cells?_some h2
    refine ⟨cs, h4, fun j hj => ?_, ⟨m, _, h3⟩⟩
    have := h5 j hj
    rwa [show (a.add (i * s)).add j = a.add (i * s + j) by
      unfold Addr.add
      by_cases h1 : i * s = 0 <;> by_cases h2 : j = 0 <;> simp [h1, h2, Nat.add_assoc]] at this
/-- a slice of bytes -/
theorem Tr.bytes {t e : TypeId} {c : Value} (h : Tr enc P w base t [c]) (ht : P.underlying t = some (.slice e)) (he : P.underlying e = some (.int .u8)) (hs : P.cellsOf e = 1) :
    ∃ (A : Option Addr) (cap : Nat) (l : List UInt8), c = .slice A l.length cap ∧ Rd w A l ∧ l.length ≤ cap ∧ cap ≤ maxLen := by
  obtain ⟨A, n, cap, rfl, hl, hm, hg⟩ := h.slice ht 1 hs
  by_cases h0 : n = 0
  · subst h0
    exact ⟨A, cap, [], rfl, Rd.nil _ _, hl, hm⟩
  · obtain ⟨a, rfl, hg2⟩ := hg (by omega)
    have hx : ∀ i, ∃ x : UInt8, i < n → w.cell? (a.add i) = some (.int .u8 (x.toNat : Int)) := by
      intro i
      by_cases hi : i < n
      · obtain ⟨cs, hcl, hcc, htr⟩ := hg2 i hi
        match cs, hcl with
        | [c0], _ =>
          obtain ⟨k, rfl, hk⟩ := htr.uint rfl he
          refine ⟨UInt8.ofNat k, fun _ => ?_⟩
          have := hcc 0 (by omega)
          rw [Nat.mul_one, Nat.add_zero] at this
          rw [this, UInt8.toNat_ofNat']
          simp [IntKind.bits] at hk
          simp only [List.getElem?_cons_zero]
          congr 2
          omega
      · exact ⟨0, fun h => absurd h hi⟩
    obtain ⟨f, hx'⟩ : ∃ f : Nat → UInt8, ∀ i, i < n → w.cell? (a.add i) = some (.int .u8 ((f i).toNat : Int)) := ⟨fun i => Classical.choose (hx i), fun i => Classical.choose_spec (hx i)⟩
    refine ⟨some a, cap, (List.range n).map f, by simp, ?_, by simpa using hl, hm⟩
    intro _
    obtain ⟨b, o, spot⟩ := a
    have h1 := hx' 0 (by omega)
    have hspot : spot = none := by simpa [Addr.add] using World.cell?_spot h1
    subst hspot
    refine ⟨b, o, rfl, fun i hi => ?_⟩
    have := hx' i (by simpa using hi)
    rw [Addr.add_lit] at this
    rw [this]
    simp
end
end Go.Proofs.Ytanpglhpmfdnmaa
