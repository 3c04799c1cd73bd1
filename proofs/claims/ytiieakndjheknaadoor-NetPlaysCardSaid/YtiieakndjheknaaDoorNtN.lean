/-
  A NET, AND THE LAW's OWN LIST OF WHAT FLIES.
-/
import Derived.Test.YtiieakndjheknaaDoorNtM
namespace Go.Proofs.YtiieakndjheknaaDoor
set_option maxRecDepth 100000
open Go.RowKit
set_option linter.unusedVariables false
set_option linter.unusedSimpArgs false
/-- one of the chapter's messages, between two replicas -/
def IsFt (n : Nat) (c : MX) : Prop := ∃ (a b i : Nat), c = ftX (a : Int) (b : Int) (i : Int) ∧ a < n ∧ b < n ∧ a ≠ b ∧ i ≤ 1000
def OI (n : Nat) (cut : List Bool) (cs : List MX) : Prop := (∀ c ∈ cs, IsFt n c) ∧ ∀ c ∈ cs, cutB (n : Int) cut c.m.fr c.m.to = false
theorem IsFt.cx {n : Nat} {c : MX} (h : IsFt n c) : cx c = c := by obtain ⟨a, b, i, rfl, _⟩ := h; rfl
theorem IsFt.ok {n : Nat} {c : MX} (h : IsFt n c) (hn : n ≤ 7) : OkX c := by
  obtain ⟨a, b, i, rfl, h1, h2, h3, h4⟩ := h
  exact ft_ok ⟨by omega, by omega⟩ ⟨by omega, by omega⟩ ⟨by omega, by omega⟩
theorem IsFt.r {n : Nat} {c : MX} (h : IsFt n c) (w : World) : MgR w c.m c.rs c.l := by obtain ⟨a, b, i, rfl, _⟩ := h; exact ft_r _ _ _ w
theorem OI.nil (n : Nat) (cut : List Bool) : OI n cut [] := ⟨fun c h => (by cases h), fun c h => (by cases h)⟩
theorem OI.sub {n : Nat} {cut : List Bool} {cs cs' : List MX} (h : OI n cut cs) (s : cs' ⊆ cs) : OI n cut cs' := ⟨fun c hc => h.1 c (s hc), fun c hc => h.2 c (s hc)⟩
theorem OI.snoc {n : Nat} {cut : List Bool} {cs : List MX} (h : OI n cut cs) {c : MX} (h1 : IsFt n c) (h2 : cutB (n : Int) cut c.m.fr c.m.to = false) : OI n cut (cs ++ [c]) := by
  constructor
  · intro z hz
    rcases List.mem_append.1 hz with hz | hz
    · exact h.1 z hz
    · obtain rfl := List.mem_singleton.1 hz; exact h1
  · intro z hz
    rcases List.mem_append.1 hz with hz | hz
    · exact h.2 z hz
    · obtain rfl := List.mem_singleton.1 hz; exact h2
theorem getD_set {cut : List Bool} {i j : Nat} (hi : i < cut.length) : (cut.set i true).getD j false = (decide (i = j) || cut.getD j false) := by
  rw [List.getD_eq_getElem?_getD, List.getElem?_set, List.getD_eq_getElem?_getD]
  by_cases e : i = j
  · subst e
    rw [if_pos rfl, if_pos hi]
    simp
  · rw [if_neg e]
    simp [e]
theorem OI.cut {n x y : Nat} {cut : List Bool} {cs : List MX} (h : OI n cut cs) : OI n (ncutC (n : Int) cut (x : Int) (y : Int)) (ncutL (n : Int) cut cs (x : Int) (y : Int)) := by
  unfold ncutC ncutL
  split
  · refine ⟨fun c hc => h.1 c (List.mem_filter.1 hc).1, fun c hc => ?_⟩
    have := (List.mem_filter.1 hc).2
    simpa using this
  · exact h
section
variable {P : Program} {a : Act} {w0 w : World} {Q : Exit → Act → World → Prop} {L : List Item} {ops : Array Oper} {rest : List Oper} {d : Option Tmp} {ty tt : TypeId} {x y : Operand} {ps : String} {af : Array Edge} {gd : Option (Nat × Bool)} {g : Nat} {n : Int} {cut : List Bool} {cs : List MX} {F Z : List Item}
theorem NetZ.ldc {gb : Nat} {t : TypeId} {vs : List Value} (HN : NetZ w0 w g n cut cs (.blk gb t vs :: F) Z) (h : Region.wanted { dst := d, op := .load ty x, type := tt, pos := ps, after := af, guard := gd } (yielded ops a.tmps) = true ∧ oneT P ty = true ∧ ∃ off, a.eval x = .pointer (some ⟨gb, off, none⟩) ∧ ∃ v, vs[off]? = some v ∧ wpList P ops Q rest (a.put d v) w) :
    wpList P ops Q ({ dst := d, op := .load ty x, type := tt, pos := ps, after := af, guard := gd } :: rest) a w := by
  obtain ⟨A, c, fl, h1, h2, h3, h4, H⟩ := HN
  obtain ⟨q1, q2, off, q3, v, q4, q5⟩ := h
  exact H.ld ⟨q1, q2, gb, off, q3, _, _, _, .s (.s .z), v, q4, q5⟩
end
theorem RdR.take {α : Type} {f : α → List Value} {n : Nat} {w : World} {A : Option Addr} {l : List α} (h : RdR f n w A l) (k : Nat) : RdR f n w A (l.take k) := by
  intro hne
  obtain ⟨b, o, e, hc⟩ := h (fun e => hne (by rw [e]; simp))
  refine ⟨b, o, e, fun i hi => ?_⟩
  rw [List.getElem_take]
  exact hc i (by rw [List.length_take] at hi; omega)
theorem RdR.drop {α : Type} {f : α → List Value} {n : Nat} {w : World} {b o : Nat} {l : List α} (h : RdR f n w (some ⟨b, o, none⟩) l) (k : Nat) : RdR f n w (some ⟨b, o + k * n, none⟩) (l.drop k) := by
  intro hne
  obtain ⟨b', o', e, hc⟩ := h (fun e => hne (by rw [e]; simp))
  injection e with e
  injection e with e1 e2
  subst e1 e2
  refine ⟨b, o + k * n, rfl, fun i hi => ?_⟩
  rw [List.getElem_drop]
  have := hc (k + i) (by rw [List.length_drop] at hi; omega)
  rwa [Nat.add_mul, ← Nat.add_assoc] at this
/-- a row of rows of the call's own, in whatever world holds them -/
theorem HpS.row {w0 : World} {L : List Item} {gF cf : Nat} {cs : List MX} (i : Nat) (hL : L[i]? = some (mwI (some ⟨gF, 0, none⟩) cf cs)) {k : Nat} (hk : k < cs.length) (y : HpS w0 L) : y.val.rangeAt gF (k * 27) (mgC cs[k].m) := by
  obtain ⟨b', o', e', hc⟩ := (y.2.rd mxC_len i hL).at_ hk
  injection e' with e'
  injection e' with e1 e2
  subst e1 e2
  have := hc k hk
  rwa [Nat.zero_add] at this
theorem z_nAct : zeroC Tryd.prog 58 = some (acC ⟨0, ⟨mg0, [], []⟩, 0, 0⟩).toArray := by kernel_rfl
theorem ac_row {w : World} {A : Option Addr} {ac : List Ac} {i : Nat} (h : RdR acC 30 w A ac) (hi : i < ac.length) : ∃ b o, A = some ⟨b, o, none⟩ ∧ w.rangeAt b (o + i * 30) (acC ac[i]) := by
  obtain ⟨b, o, e, hc⟩ := h.at_ hi
  exact ⟨b, o, e, hc i hi⟩
end Go.Proofs.YtiieakndjheknaaDoor
