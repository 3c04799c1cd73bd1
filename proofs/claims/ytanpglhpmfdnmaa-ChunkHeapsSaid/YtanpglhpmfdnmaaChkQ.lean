/-
  chunk.Heap: what it answers behind a Put, a Lose (plain).
-/
import Derived.Test.YtanpglhpmfdnmaaChkM
namespace Go.Proofs.Ytanpglhpmfdnmaa
open Go.RowKit
set_option linter.unusedVariables false
set_option linter.unusedSimpArgs false
theorem getM_put (k : Int) (x : Ch) (cl : Nat) (j : Int) : ∀ ms : List MCh, getM j (putM k x cl ms) = if j = k then some x else getM j ms
  | [] => by simp [putM, getM]
  | y :: ms => by
    have ih := getM_put k x cl j ms
    by_cases h : k = y.1
    · rw [putM, if_pos h, getM, getM]
      by_cases hj : j = k
      · rw [if_pos hj, if_pos hj]
      · rw [if_neg hj, if_neg hj, if_neg (by rw [← h]; exact hj)]
    · rw [putM, if_neg h, getM, getM, ih]
      by_cases hj : j = y.1
      · rw [if_pos hj, if_pos hj, if_neg (by rw [hj]; exact fun e => h e.symm)]
      · rw [if_neg hj, if_neg hj]
theorem lenM_put (k : Int) (x : Ch) (cl : Nat) : ∀ ms : List MCh, (putM k x cl ms).length = if (getM k ms).isSome then ms.length else ms.length + 1
  | [] => by simp [putM, getM]
  | y :: ms => by
    have ih := lenM_put k x cl ms
    by_cases h : k = y.1
    · rw [putM, if_pos h, getM, if_pos h]; simp
    · rw [putM, if_neg h, getM, if_neg h, List.length_cons, List.length_cons, ih]
      split <;> rfl
theorem memM_put {k : Int} {x : Ch} {cl : Nat} {z : MCh} : ∀ {ms : List MCh}, z ∈ putM k x cl ms → z.2.1 = x ∨ z ∈ ms
  | [], h => by
    rw [putM, List.mem_singleton] at h
    subst h
    exact .inl rfl
  | y :: ms, h => by
    by_cases e : k = y.1
    · rw [putM, if_pos e, List.mem_cons] at h
      rcases h with rfl | h
      · exact .inl rfl
      · exact .inr (List.mem_cons_of_mem _ h)
    · rw [putM, if_neg e, List.mem_cons] at h
      rcases h with rfl | h
      · exact .inr List.mem_cons_self
      · rcases memM_put h with h | h
        · exact .inl h
        · exact .inr (List.mem_cons_of_mem _ h)
/-- no number twice -/
def NDm : List MCh → Prop
  | [] => True
  | y :: ms => getM y.1 ms = none ∧ NDm ms
theorem NDm_put (k : Int) (x : Ch) (cl : Nat) : ∀ {ms : List MCh}, NDm ms → NDm (putM k x cl ms)
  | [], _ => ⟨rfl, trivial⟩
  | y :: ms, ⟨h1, h2⟩ => by
    by_cases e : k = y.1
    · rw [putM, if_pos e]
      exact ⟨by rw [e]; exact h1, h2⟩
    · rw [putM, if_neg e]
      refine ⟨?_, NDm_put k x cl h2⟩
      rw [getM_put, if_neg (fun h => e h.symm)]
      exact h1
theorem getM_del (k j : Int) : ∀ {ms : List MCh}, NDm ms → getM j (delM k ms) = if j = k then none else getM j ms
  | [], _ => by simp [delM, getM]
  | y :: ms, ⟨h1, h2⟩ => by
    have ih := getM_del k j h2
    by_cases e : k = y.1
    · rw [delM, if_pos e]
      by_cases hj : j = k
      · rw [if_pos hj, hj, e]; exact h1
      · rw [if_neg hj, getM, if_neg (by rw [← e]; exact hj)]
    · rw [delM, if_neg e, getM, getM, ih]
      by_cases hj : j = k
      · rw [if_pos hj, if_pos hj, if_neg (by rw [hj]; exact e)]
      · rw [if_neg hj, if_neg hj]
theorem lenM_del (k : Int) : ∀ ms : List MCh, (delM k ms).length ≤ ms.length ∧ ((getM k ms).isSome = true → (delM k ms).length + 1 = ms.length)
  | [] => by simp [delM, getM]
  | y :: ms => by
    have ih := lenM_del k ms
    by_cases e : k = y.1
    · rw [delM, if_pos e]; simp
    · rw [delM, if_neg e, getM, if_neg e, List.length_cons, List.length_cons]
      exact ⟨by omega, fun h => by have := ih.2 h; omega⟩
theorem memM_del {k : Int} {z : MCh} : ∀ {ms : List MCh}, z ∈ delM k ms → z ∈ ms
  | [], h => h
  | y :: ms, h => by
    by_cases e : k = y.1
    · rw [delM, if_pos e] at h
      exact List.mem_cons_of_mem _ h
    · rw [delM, if_neg e, List.mem_cons] at h
      rcases h with rfl | h
      · exact List.mem_cons_self
      · exact List.mem_cons_of_mem _ (memM_del h)
theorem Hs.get_put (s : Hs) (k : Int) (x : Ch) (j : Int) : (s.put k x).get j = if j = k then some x else s.get j := getM_put k x s.cl j s.ms
/-- one put: one less is missing, if it was -/
theorem miss_put (s : Hs) (k : Nat) (x : Ch) : ∀ n, ((s.put k x).miss n).length + (if k < n ∧ (s.get (k : Int)).isNone then 1 else 0) = (s.miss n).length
  | 0 => by simp [Hs.miss]
  | n + 1 => by
    have ih := miss_put s k x n
    rw [miss_succ, miss_succ, Hs.get_put]
    by_cases h : n = k
    · subst h
      rw [if_pos rfl]
      simp only [Nat.lt_irrefl, false_and, if_false] at ih
      cases hg : (s.get (n : Int)) <;> simp [hg] <;> omega
    · rw [if_neg (show ¬ ((n : Int) = (k : Int)) by omega)]
      have e : (k < n + 1 ∧ (s.get (k : Int)).isNone = true) ↔ (k < n ∧ (s.get (k : Int)).isNone = true) := by
        constructor <;> rintro ⟨h1, h2⟩ <;> exact ⟨by omega, h2⟩
      by_cases hc : k < n ∧ (s.get (k : Int)).isNone = true
      · rw [if_pos hc] at ih
        rw [if_pos (e.2 hc)]
        split
        · rw [List.length_append, List.length_append]; simp only [List.length_singleton]; omega
        · exact ih
      · rw [if_neg hc] at ih
        rw [if_neg (fun h => hc (e.1 h))]
        split
        · rw [List.length_append, List.length_append]; simp only [List.length_singleton]; omega
        · exact ih
theorem miss_none {s : Hs} : ∀ {n : Nat}, (∀ j : Nat, j < n → (s.get (j : Int)).isSome = true) → s.miss n = []
  | 0, _ => rfl
  | n + 1, h => by
    rw [miss_succ, miss_none (fun j hj => h j (by omega)), if_neg]
    have := h n (by omega)
    cases hg : s.get (n : Int) with
    | none => rw [hg] at this; cases this
    | some x => simp
theorem miss_del {s : Hs} (hd : NDm s.ms) (k : Nat) : ∀ {n : Nat}, (∀ j : Nat, j < n → (s.get (j : Int)).isSome = true) → (s.del k).miss n = if k < n then [(k : Int)] else []
  | 0, _ => rfl
  | n + 1, h => by
    have hg : (s.del k).get (n : Int) = if (n : Int) = k then none else s.get (n : Int) := getM_del k n hd
    rw [miss_succ, miss_del hd k (fun j hj => h j (by omega)), hg]
    by_cases e : n = k
    · subst e
      simp
    · rw [if_neg (show ¬ ((n : Int) = (k : Int)) by omega)]
      have h2 := h n (by omega)
      cases hq : s.get (n : Int) with
      | none => rw [hq] at h2; cases h2
      | some x =>
        simp only [Option.isNone_some, Bool.false_eq_true, if_false]
        by_cases hk : k < n
        · rw [if_pos hk, if_pos (by omega)]
        · rw [if_neg hk, if_neg (by omega)]
theorem wl_of {s : Hs} {sl : List (List UInt8)} : ∀ n, n ≤ sl.length → (∀ i (h : i < sl.length), s.getL (i : Int) = sl[i]) → s.wl n = (sl.take n).flatten
  | 0, _, _ => by simp [Hs.wl]
  | n + 1, h, hc => by
    rw [wl_succ, wl_of n (by omega) hc, hc n (by omega), List.take_succ_eq_append_getElem (by omega), List.flatten_append]
    simp
/-- a heap that is right -/
structure HOk (s : Hs) (sl : List (List UInt8)) (Lx : List Item) : Prop where
  n : s.n = sl.length
  d : NDm s.ms
  len : s.ms.length + (s.miss s.n).length = s.n
  con : ∀ i (h : i < sl.length) x, s.get (i : Int) = some x → x.l = sl[i]
  mem : ∀ x ∈ s.ms, x.2.1.item ∈ Lx ∧ x.2.1.l.length ≤ 1000
theorem HOk.new (sl : List (List UInt8)) (Lx : List Item) : HOk ⟨sl.length, [], 0⟩ sl Lx := by
  have e : ∀ n, ((Hs.mk sl.length [] 0).miss n).length = n := by
    intro n
    induction n with
    | zero => rfl
    | succ n ih => rw [miss_succ, if_pos (show ((Hs.mk sl.length [] 0).get (n : Int)).isNone = true from rfl), List.length_append, ih]; rfl
  exact ⟨rfl, trivial, by rw [e]; exact Nat.zero_add _, fun i h x (hx : none = some x) => (by cases hx), fun x hx => by have hx : x ∈ ([] : List MCh) := hx; cases hx⟩
theorem HOk.put {s : Hs} {sl : List (List UInt8)} {Lx Lx' : List Item} (h : HOk s sl Lx) (k : Nat) (x : Ch) (hk : k < sl.length) (hx : x.l = sl[k]) (hl : x.l.length ≤ 1000) (hm : x.item ∈ Lx') (hs : ∀ y ∈ Lx, y ∈ Lx') : HOk (s.put k x) sl Lx' := by
  refine ⟨h.n, NDm_put _ _ _ h.d, ?_, ?_, ?_⟩
  · have h1 := miss_put s k x s.n
    have h2 : (s.put k x).ms.length = _ := lenM_put k x s.cl s.ms
    have h3 := h.len
    have h4 : (s.put k x).n = s.n := rfl
    have h5 := h.n
    rw [h4, h2]
    change s.n = sl.length at h5
    cases hg : getM (k : Int) s.ms with
    | none =>
      have hg' : s.get (k : Int) = none := hg
      rw [hg', if_pos ⟨by omega, rfl⟩] at h1
      simp only [Option.isSome_none, Bool.false_eq_true, if_false]
      omega
    | some y =>
      have hg' : s.get (k : Int) = some y := hg
      rw [hg', if_neg (by simp)] at h1
      simp only [Option.isSome_some, if_true]
      omega
  · intro i hi y hy
    rw [Hs.get_put] at hy
    by_cases e : (i : Int) = k
    · rw [if_pos e] at hy
      injection hy with hy
      have : i = k := by omega
      subst this hy
      exact hx
    · rw [if_neg e] at hy
      exact h.con i hi y hy
  · intro z hz
    rcases memM_put (show z ∈ putM (k : Int) x s.cl s.ms from hz) with e | hz
    · rw [e]; exact ⟨hm, hl⟩
    · exact ⟨hs _ (h.mem z hz).1, (h.mem z hz).2⟩
theorem HOk.all {s : Hs} {sl : List (List UInt8)} {Lx : List Item} (h : HOk s sl Lx) : (s.miss s.n).length = 0 ∧ s.whE = 0 ∨ (s.miss s.n).length ≠ 0 ∧ s.whE = 120 := by
  have := h.len
  unfold Hs.whE Hs.allB
  by_cases e : (s.miss s.n).length = 0
  · exact .inl ⟨e, by rw [if_pos (decide_eq_true (by omega))]⟩
  · exact .inr ⟨e, by rw [if_neg (by simp; omega)]⟩
theorem HOk.whole {s : Hs} {sl : List (List UInt8)} {Lx : List Item} (h : HOk s sl Lx) (ha : ∀ j : Nat, j < s.n → (s.get (j : Int)).isSome = true) : s.whE = 0 ∧ s.whL = sl.flatten := by
  have h1 := miss_none ha
  have h2 := h.len
  rw [h1] at h2
  have h3 : s.allB = true := decide_eq_true (by simp at h2; omega)
  refine ⟨by unfold Hs.whE; rw [h3]; rfl, ?_⟩
  unfold Hs.whL
  rw [h3, if_pos rfl, h.n, wl_of sl.length (Nat.le_refl _) ?_, List.take_length]
  intro i hi
  have h4 := ha i (by rw [h.n]; exact hi)
  unfold Hs.getL
  cases hg : s.get (i : Int) with
  | none => rw [hg] at h4; cases h4
  | some x => exact h.con i hi x hg
theorem HOk.lost {s : Hs} {sl : List (List UInt8)} {Lx : List Item} (h : HOk s sl Lx) (ha : ∀ j : Nat, j < s.n → (s.get (j : Int)).isSome = true) (k : Nat) (hk : k < s.n) : (s.del k).miss (s.del k).n = [(k : Int)] ∧ (s.del k).whE = 120 ∧ (∀ x ∈ (s.del k).ms, x.2.1.item ∈ Lx ∧ x.2.1.l.length ≤ 1000) := by
  refine ⟨?_, ?_, fun x hx => h.mem x (memM_del hx)⟩
  · rw [show (s.del k).n = s.n from rfl, miss_del h.d k ha, if_pos hk]
  · have h1 := (lenM_del k s.ms).2 (ha k hk)
    have h2 := h.len
    unfold Hs.whE Hs.allB
    rw [if_neg]
    rw [decide_eq_true_eq]
    show ¬ s.n ≤ (delM k s.ms).length
    omega
/-- which are there -/
def pbO (s : Hs) : List Value := (List.range s.n).map fun (j : Nat) => .bool (s.get (j : Int)).isSome
theorem pbO_get {s : Hs} {j : Nat} (h : j < s.n) : (pbO s)[j]? = some (.bool (s.get (j : Int)).isSome) := by
  unfold pbO
  rw [List.getElem?_map, List.getElem?_range h]
  rfl
theorem pbO_at (s : Hs) (j : Nat) (h : j < (pbO s).length) : (pbO s)[j] = .bool (s.get (j : Int)).isSome := by simp [pbO]
theorem pbO_put (s : Hs) (k : Nat) (x : Ch) : (pbO s).set k (.bool true) = pbO (s.put k x) := by
  refine List.ext_getElem (by simp [pbO, Hs.put]) fun j h1 h2 => ?_
  rw [List.getElem_set]
  have hj : j < s.n := by simpa [pbO] using h1
  rw [pbO_at, pbO_at, Hs.get_put]
  by_cases e : k = j
  · subst e
    rw [if_pos rfl, if_pos rfl]
    rfl
  · rw [if_neg e, if_neg (show ¬ ((j : Int) = (k : Int)) by omega)]
theorem pbO_new (n : Nat) : pbO ⟨n, [], 0⟩ = List.replicate n (.bool false) := by
  refine List.ext_getElem (by simp [pbO]) fun j h1 h2 => ?_
  rw [List.getElem_replicate, pbO_at]
  rfl
theorem hs_isSome_put {s : Hs} {k : Int} {x : Ch} {j : Int} (h : j = k ∨ (s.get j).isSome = true) : ((s.put k x).get j).isSome = true := by
  rw [Hs.get_put]
  split
  · rfl
  · rcases h with h | h
    · exact absurd h (by assumption)
    · exact h
/-- bools, none of them true -/
theorem bool_sl : Try.prog.underlying 72 = some (.slice 4) := Try.underlying72
theorem bool_info : (Try.prog.info? 4).map (fun i => (i.zero, i.size, i.bytes)) = some (some (.bool false), 1, 1) := by kernel_rfl
theorem Hp.mkB {a : Act} {w0 w : World} {Q : Exit → Act → World → Prop} {L : List Item} {ops : Array Oper} {rest : List Oper} {d : Option Tmp} {tt : TypeId} {ps : String} {af : Array Edge} {x y : Operand} (H : Hp w0 w L) (h : ∃ n : Nat, a.eval x = .int .i64 (n : Int) ∧ a.eval y = .int .i64 (n : Int) ∧ n ≤ 1000000 ∧
    ∀ g w', Hp w0 w' (.blk g 4 (List.replicate n (.bool false)) :: L) → wpList Try.prog ops Q rest (a.put d (.slice (some ⟨g, 0, none⟩) n n)) w') :
    wpList Try.prog ops Q ({ dst := d, op := .makeSlice 72 x y, type := tt, pos := ps, after := af, guard := none } :: rest) a w := by
  obtain ⟨n, hx, hy, hn, hk⟩ := h
  obtain ⟨i, hi, hz0, hz1, hz2⟩ := info_parts bool_info
  have hb' : (i.bytes : Int) * (n : Int) ≤ 281474976710656 := by
    rw [hz2]
    omega
  have hr := run_make (P := Try.prog) w _ _ i _ bool_sl hi hz0 .i64 .i64 n n (by omega) (by omega) hb' (by omega)
  simp only [Int.toNat_natCast] at hr
  have e : (madeCells (Value.bool false).cells (n * i.size)) = (List.replicate n (Value.bool false)).toArray := by
    rw [hz1, Nat.mul_one]
    apply Array.toList_inj.1
    rw [show (Value.bool false).cells = #[Value.bool false] from rfl, toList_madeCells_one]
  rw [e] at hr
  refine wpList_plain rfl fun K hK => hw_turn (v := .slice (some ⟨w.heap.size, 0, none⟩) n n) (w' := w.alloc (.cells (List.replicate n (Value.bool false)).toArray 4)) ?_ (hK _ _ (hk _ _ (H.alloc _ _)))
  simp [execOp, hx, hy, hr, Result.andThen]
end Go.Proofs.Ytanpglhpmfdnmaa
