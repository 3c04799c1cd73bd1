/-
  Both heaps, side by side (plain).
-/
import Derived.Test.YtanpglhpmfdnmaaChkV
namespace Go.Proofs.Ytanpglhpmfdnmaa
open Go.RowKit
set_option linter.unusedVariables false
set_option linter.unusedSimpArgs false
theorem miss_del_len {s : Hs} (hd : NDm s.ms) (k : Nat) : ∀ n, ((s.del k).miss n).length = (s.miss n).length + (if k < n ∧ (s.get (k : Int)).isSome then 1 else 0)
  | 0 => by simp [Hs.miss]
  | n + 1 => by
    have ih := miss_del_len hd k n
    have hg : (s.del k).get (n : Int) = if (n : Int) = k then none else s.get (n : Int) := getM_del k n hd
    rw [miss_succ, miss_succ, hg]
    by_cases h : n = k
    · subst h
      rw [if_pos rfl]
      simp only [Nat.lt_irrefl, false_and, if_false] at ih
      cases hq : (s.get (n : Int)) <;> simp [hq] <;> omega
    · rw [if_neg (show ¬ ((n : Int) = (k : Int)) by omega)]
      by_cases hc : k < n ∧ (s.get (k : Int)).isSome = true
      · rw [if_pos hc] at ih
        rw [if_pos (show k < n + 1 ∧ (s.get (k : Int)).isSome = true from ⟨by omega, hc.2⟩)]
        split
        · rw [List.length_append, List.length_append]; simp only [List.length_singleton]; omega
        · exact ih
      · rw [if_neg hc] at ih
        rw [if_neg (show ¬ (k < n + 1 ∧ (s.get (k : Int)).isSome = true) from fun h2 => hc ⟨by omega, h2.2⟩)]
        split
        · rw [List.length_append, List.length_append]; simp only [List.length_singleton]; omega
        · exact ih
/-- both heaps are right -/
structure HBo (s : Hs) (chs : List Ch) (n : Nat) (Lx : List Item) : Prop where
  sn : s.n = n
  d : NDm s.ms
  len : s.ms.length + (s.miss s.n).length = s.n
  rng : ∀ k : Int, (s.get k).isSome = true → 0 ≤ k ∧ k < (n : Int)
  mem : ∀ x ∈ s.ms, x.2.1.item ∈ Lx ∧ x.2.1.l.length ≤ 1000
  cn : chs.length = n
  con : ∀ j (h : j < chs.length), chs[j].l = s.getL (j : Int)
  cm : ∀ x ∈ chs, x.item ∈ Lx
theorem HBo.more {s : Hs} {chs : List Ch} {n : Nat} {Lx Lx' : List Item} (h : HBo s chs n Lx) (hs : ∀ y ∈ Lx, y ∈ Lx') : HBo s chs n Lx' :=
  ⟨h.sn, h.d, h.len, h.rng, fun x hx => ⟨hs _ (h.mem x hx).1, (h.mem x hx).2⟩, h.cn, h.con, fun x hx => hs _ (h.cm x hx)⟩
theorem HBo.new (n : Nat) (Lx : List Item) (hb : Item.bytes none 0 [] ∈ Lx) : HBo ⟨n, [], 0⟩ (rchs0 n) n Lx := by
  have e : ∀ k, ((Hs.mk n [] 0).miss k).length = k := by
    intro k
    induction k with
    | zero => rfl
    | succ k ih => rw [miss_succ, if_pos (show ((Hs.mk n [] 0).get (k : Int)).isNone = true from rfl), List.length_append, ih]; rfl
  refine ⟨rfl, trivial, by rw [e]; exact Nat.zero_add _, fun k (h : (none : Option Ch).isSome = true) => (by cases h), fun x hx => ?_, by simp [rchs0], fun j h => ?_, fun x hx => ?_⟩
  · have hx : x ∈ ([] : List MCh) := hx
    cases hx
  · have e2 : (rchs0 n)[j] = Ch.mk none 0 [] := List.eq_of_mem_replicate (List.getElem_mem h)
    rw [e2]
    rfl
  · unfold rchs0 at hx
    rw [List.eq_of_mem_replicate hx]
    exact hb
theorem getL_put (s : Hs) (k : Int) (x : Ch) (j : Int) : (s.put k x).getL j = if j = k then x.l else s.getL j := by
  unfold Hs.getL
  rw [Hs.get_put]
  by_cases h : j = k
  · rw [if_pos h, if_pos h]
  · rw [if_neg h, if_neg h]
theorem getL_del {s : Hs} (hd : NDm s.ms) (k j : Int) : (s.del k).getL j = if j = k then [] else s.getL j := by
  unfold Hs.getL
  rw [show (s.del k).get j = if j = k then none else s.get j from getM_del k j hd]
  by_cases h : j = k
  · rw [if_pos h, if_pos h]
  · rw [if_neg h, if_neg h]
theorem HBo.put {s : Hs} {chs : List Ch} {n : Nat} {Lx Lx' : List Item} (h : HBo s chs n Lx) (q : Nat) (x y : Ch) (hq : q < n) (he : y.l = x.l) (hl : x.l.length ≤ 1000) (hx : x.item ∈ Lx') (hy : y.item ∈ Lx') (hs : ∀ y ∈ Lx, y ∈ Lx') : HBo (s.put q x) (chs.set q y) n Lx' := by
  refine ⟨h.sn, NDm_put _ _ _ h.d, ?_, ?_, ?_, by rw [List.length_set]; exact h.cn, ?_, ?_⟩
  · have h1 := miss_put s q x s.n
    have h2 : (s.put q x).ms.length = _ := lenM_put q x s.cl s.ms
    have h3 := h.len
    have h4 : (s.put q x).n = s.n := rfl
    have h5 := h.sn
    rw [h4, h2]
    change s.n = n at h5
    cases hg : getM (q : Int) s.ms with
    | none =>
      have hg' : s.get (q : Int) = none := hg
      rw [hg', if_pos ⟨by omega, rfl⟩] at h1
      simp only [Option.isSome_none, Bool.false_eq_true, if_false]
      omega
    | some z =>
      have hg' : s.get (q : Int) = some z := hg
      rw [hg', if_neg (by simp)] at h1
      simp only [Option.isSome_some, if_true]
      omega
  · intro k hk
    rw [Hs.get_put] at hk
    by_cases e : k = (q : Int)
    · omega
    · rw [if_neg e] at hk
      exact h.rng k hk
  · intro z hz
    rcases memM_put (show z ∈ putM (q : Int) x s.cl s.ms from hz) with e | hz
    · rw [e]; exact ⟨hx, hl⟩
    · exact ⟨hs _ (h.mem z hz).1, (h.mem z hz).2⟩
  · intro j hj
    rw [List.getElem_set, getL_put]
    by_cases e : q = j
    · subst e
      rw [if_pos rfl, if_pos rfl, he]
    · rw [if_neg e, if_neg (show ¬ ((j : Int) = (q : Int)) by omega)]
      exact h.con j (by simpa using hj)
  · intro z hz
    rcases List.mem_or_eq_of_mem_set hz with hz | rfl
    · exact hs _ (h.cm z hz)
    · exact hy
theorem HBo.del {s : Hs} {chs : List Ch} {n : Nat} {Lx : List Item} (h : HBo s chs n Lx) (q : Nat) (hq : q < n) (hb : Item.bytes none 0 [] ∈ Lx) : HBo (s.del q) (delC q chs) n Lx := by
  refine ⟨h.sn, ?_, ?_, ?_, fun x hx => h.mem x (memM_del hx), by unfold delC; rw [List.length_set]; exact h.cn, ?_, ?_⟩
  · have : ∀ {ms : List MCh}, NDm ms → NDm (delM (q : Int) ms) := by
      intro ms
      induction ms with
      | nil => exact fun h => h
      | cons y ms ih =>
        rintro ⟨h1, h2⟩
        rw [delM]
        split
        · exact h2
        · next e =>
          refine ⟨?_, ih h2⟩
          rw [getM_del _ _ h2]
          split
          · rfl
          · exact h1
    exact this h.d
  · have h1 := miss_del_len h.d q s.n
    have h2 := lenM_del (q : Int) s.ms
    have h3 := h.len
    have h5 := h.sn
    change (delM (q : Int) s.ms).length + ((s.del q).miss s.n).length = s.n
    rw [h1]
    cases hg : getM (q : Int) s.ms with
    | none =>
      have hg' : s.get (q : Int) = none := hg
      rw [hg', if_neg (by simp)]
      have : ∀ {ms : List MCh}, getM (q : Int) ms = none → delM (q : Int) ms = ms := by
        intro ms
        induction ms with
        | nil => exact fun _ => rfl
        | cons y ms ih =>
          intro hm
          rw [getM] at hm
          split at hm
          · cases hm
          · next e => rw [delM, if_neg e, ih hm]
      rw [this hg]
      exact h3
    | some z =>
      have hg' : s.get (q : Int) = some z := hg
      have h4 := h2.2 (by rw [hg]; rfl)
      rw [hg', if_pos ⟨by omega, rfl⟩]
      omega
  · intro k hk
    rw [show (s.del q).get k = if k = (q : Int) then none else s.get k from getM_del q k h.d] at hk
    by_cases e : k = (q : Int)
    · rw [if_pos e] at hk; cases hk
    · rw [if_neg e] at hk
      exact h.rng k hk
  · intro j hj
    unfold delC at hj ⊢
    rw [List.getElem_set, getL_del h.d]
    by_cases e : q = j
    · subst e
      rw [if_pos rfl, if_pos rfl]
    · rw [if_neg e, if_neg (show ¬ ((j : Int) = (q : Int)) by omega)]
      exact h.con j (by simpa using hj)
  · intro z hz
    rcases List.mem_or_eq_of_mem_set hz with hz | rfl
    · exact h.cm z hz
    · exact hb
theorem HBo.out {s : Hs} {chs : List Ch} {n : Nat} {Lx : List Item} (h : HBo s chs n Lx) {k : Int} (hk : k < 0 ∨ (n : Int) ≤ k) : s.getL k = [] ∧ (s.get k).isSome = false := by
  have : s.get k = none := by
    cases e : s.get k with
    | none => rfl
    | some x =>
      have := h.rng k (by rw [e]; rfl)
      omega
  unfold Hs.getL
  rw [this]
  exact ⟨rfl, rfl⟩
theorem HBo.whole {s : Hs} {chs : List Ch} {n : Nat} {Lx : List Item} (h : HBo s chs n Lx) : s.rwL = s.whL ∧ s.rwE = s.whE := by
  have := h.len
  unfold Hs.rwL Hs.rwE Hs.whL Hs.whE Hs.allB
  by_cases e : (s.miss s.n).length = 0
  · rw [if_pos e, if_pos e, if_pos (decide_eq_true (by omega)), if_pos (decide_eq_true (by omega))]
    exact ⟨rfl, rfl⟩
  · rw [if_neg e, if_neg e, if_neg (by simp; omega), if_neg (by simp; omega)]
    exact ⟨rfl, rfl⟩
end Go.Proofs.Ytanpglhpmfdnmaa
