/-
  REGIONS THAT DRAW THEIR ORDER AND WHOSE CALLEES MAKE MEMORY OF THEIR OWN: one walk in the order of the text. The class of worlds: those that are as this one below its own size.
-/
import Derived.Test.YtanpglhpmfdnmaaMem
namespace Go.Proofs.Ytanpglhpmfdnmaa
open Go.RowKit

/-- the world w, with what x has made since -/
def BW (w x : World) : World := { x with heap := w.heap ++ x.heap, tape := w.tape, os := w.os, output := w.output }

theorem BW_below (w x : World) : Below w.heap.size w (BW w x) :=
  ⟨rfl, rfl, rfl, by simp [BW], fun k hk => by simp [BW, Array.getElem?_append_left hk]⟩
theorem BW_of {w w' : World} (h : Below w.heap.size w w') : ∃ x, w' = BW w x := by
  refine ⟨{ w' with heap := w'.heap.extract w.heap.size w'.heap.size }, ?_⟩
  have hh : w.heap ++ w'.heap.extract w.heap.size w'.heap.size = w'.heap := by
    apply Array.ext_getElem?
    intro i
    by_cases hi : i < w.heap.size
    · rw [Array.getElem?_append_left hi, h.block i hi]
    · have := h.size
      rw [Array.getElem?_append_right (by omega), Array.getElem?_extract]
      by_cases h2 : i < w'.heap.size
      · rw [if_pos (by omega)]; congr 1; omega
      · rw [if_neg (by omega), Array.getElem?_eq_none (by omega)]
  obtain ⟨hp, tp, dr, os, out⟩ := w'
  have h1 := h.os
  have h2 := h.tape
  have h3 := h.output
  simp only at h1 h2 h3 hh
  simp only [BW, hh]
  rw [h1, h2, h3]
theorem BW_cell (w x : World) (a : Addr) (h : a.block < w.heap.size) : (BW w x).cell? a = w.cell? a := (BW_below w x).cell h
theorem BW_frozen (w x : World) (a : Addr) (h : a.block < w.heap.size) : (BW w x).frozen? a = w.frozen? a := (BW_below w x).frozen h
theorem BW_bel {w x w' : World} (h : Below (BW w x).heap.size (BW w x) w') : ∃ y, w' = BW w y := BW_of (bt (BW_below w x) h)
theorem BW_get {w w' : World} (h : ∃ x, w' = BW w x) : Below w.heap.size w w' := by
  obtain ⟨x, rfl⟩ := h
  exact BW_below w x
theorem Rd.bw {w : World} {A : Option Addr} {l : List UInt8} (h : Rd w A l) (x : World) : Rd (BW w x) A l := h.below (BW_below w x)

section
variable {P : Program}
theorem wp_region_calm {id : Nat} {Q : Exit → Act → World → Prop} {a : Act} {w : World} {l : List Oper} (hm : P.follows .mixedOrders = true) (hB : Region.lexB .any l.toArray = true)
    (h : wpQuiet P l.toArray (fun w' => ∃ x, w' = BW w x) (fun a' => ∀ w', (∃ x, w' = BW w x) → Q .normal a' w') l a) : (Code.region id l.toArray true).wp P Q a w :=
  wp_region_quiet (C := fun w' => ∃ x, w' = BW w x) hm hB (BW_of ⟨rfl, rfl, rfl, Nat.le_refl _, fun _ _ => rfl⟩) (by simpa using h)
/-- a callee that makes memory of its own -/
theorem calm_of {f : FuncId} {args : Array Value} {w x : World} {v : Value} (h : Calls P f args (BW w x) (RetV (BW w x) v)) : Calls P f args (BW w x) fun e w'' => e = .returned v ∧ ∃ y, w'' = BW w y :=
  h.mono fun _ _ ⟨he, hb⟩ => ⟨he, BW_bel hb⟩
/-- a callee that only computes -/
theorem calm_same {f : FuncId} {args : Array Value} {w x : World} {v : Value} (h : Calls P f args (BW w x) fun e w' => e = .returned v ∧ BW w x = w') : Calls P f args (BW w x) fun e w'' => e = .returned v ∧ ∃ y, w'' = BW w y :=
  h.mono fun _ _ ⟨he, hb⟩ => ⟨he, x, hb.symm⟩
end
end Go.Proofs.Ytanpglhpmfdnmaa
