/-
  THE WALK OF THE LAW ChunkSplits.
-/
import Derived.Test.YtanpglhpmfdnmaaSplR
namespace Go.Proofs.Ytanpglhpmfdnmaa
open Go.RowKit
set_option linter.unusedVariables false
set_option linter.unusedSimpArgs false
/-- what Split makes -/
def spLL (l : List UInt8) : List (List UInt8) := if 640 < l.length then [] else spl l
def spEE (l : List UInt8) : Int := if 640 < l.length then 3 else 0
theorem spLL_len (l : List UInt8) : (spLL l).length ≤ 8 := by
  unfold spLL
  split
  · simp
  · rw [spl_len]; exact nCh_le (by omega)
theorem spLL_each (l : List UInt8) : ∀ x ∈ spLL l, x.length ≤ 80 := by
  intro x hx
  unfold spLL at hx
  split at hx
  · simp at hx
  · obtain ⟨k, hk, rfl⟩ := List.getElem_of_mem hx
    rw [spl_get, List.length_take]
    omega
/-- new lists of bytes, a number -/
def RetCg (w : World) (ls : List (List UInt8)) (k : Int) (e : Ending) (w' : World) : Prop := ∃ A c chs, e = .returned (.tuple #[.slice A ls.length c, .int .i64 k]) ∧ chs.map (·.l) = ls ∧ Hp w w' (.rows 22 1 chC A c chs :: chs.map Ch.item)
theorem RetCg_of {w w' : World} {ls : List (List UInt8)} {k : Int} {e : Ending} (h : RetCh w ls k e w') : RetCg w ls k e w' := by
  obtain ⟨A, c, chs, rfl, rfl, H⟩ := h
  exact ⟨A, c, chs, by simp, rfl, H⟩
theorem split_v {l : List UInt8} {ls : List (List UInt8)} {E : Int} (hs : spLL l = ls) (hE : spEE l = E) (A : Option Addr) (c : Nat) (w : World) (hr : Rd w A l) (hc : l.length ≤ c) (hm : c ≤ maxLen) : Calls Try.prog 30 #[.slice A l.length c] w (RetCg w ls E) := by
  subst hs hE
  unfold spLL spEE
  by_cases h : 640 < l.length
  · rw [if_pos h, if_pos h]
    exact (split_no A c l w (decide_eq_true (by omega))).mono fun _ _ h => RetCg_of h
  · rw [if_neg h, if_neg h]
    exact (split_yes A c l w hr hc hm (decide_eq_false (by omega))).mono fun _ _ h => RetCg_of h
theorem rsplit_v {l : List UInt8} {ls : List (List UInt8)} {E : Int} (hs : spLL l = ls) (hE : spEE l = E) (A : Option Addr) (c : Nat) (w : World) (hr : Rd w A l) (hc : l.length ≤ c) (hm : c ≤ maxLen) : Calls Try.prog 31 #[.slice A l.length c] w (RetCg w ls E) := by
  subst hs hE
  unfold spLL spEE
  by_cases h : 640 < l.length
  · rw [if_pos h, if_pos h]
    exact (rsplit_no A c l w (decide_eq_true (by omega))).mono fun _ _ h => RetCg_of h
  · rw [if_neg h, if_neg h]
    exact (rsplit_yes A c l w hr hc hm (decide_eq_false (by omega))).mono fun _ _ h => RetCg_of h
theorem rpjoin_v {ls : List (List UInt8)} {L : List UInt8} {E : Int} (hL : joL ls = L) (hE : joE ls = E) (A : Option Addr) (c : Nat) (w : World) (hr : RdL w A ls) (hc : ls.length ≤ 1000) (hx : ∀ x ∈ ls, x.length ≤ 1000000) :
    Calls Try.prog 34 #[.slice A ls.length c] w (RetBI w L E) := by
  subst hL hE
  exact rpjoin_any A c ls w hr hc hx
/-! reading by membership -/
theorem Hp.rdM {w0 w : World} {L : List Item} (H : Hp w0 w L) {A : Option Addr} {c : Nat} {l : List UInt8} (h : Item.bytes A c l ∈ L) : Rd w A l := by
  obtain ⟨i, hi⟩ := List.getElem?_of_mem h
  exact (H.o i hi).rd
theorem rdl_mem {w0 w : World} {L : List Item} (H : Hp w0 w L) {A : Option Addr} {c : Nat} {chs : List Ch} {ls : List (List UInt8)} (hm : chs.map (·.l) = ls) (hL : Item.rows 22 1 chC A c chs ∈ L) (hsub : ∀ x ∈ chs, x.item ∈ L) : RdL w A ls := by
  subst hm
  obtain ⟨i, hi⟩ := List.getElem?_of_mem hL
  exact rdl_ch H i hi hsub
/-- rows of bytes with their bytes, and more -/
def chI (A : Option Addr) (c : Nat) (chs : List Ch) (R : List Item) : List Item := .rows 22 1 chC A c chs :: (chs.map Ch.item ++ R)
theorem chI_sub (A : Option Addr) (c : Nat) (chs : List Ch) (R : List Item) : R.Sublist (chI A c chs R) := (List.sublist_append_right _ _).cons _
theorem chI_row (A : Option Addr) (c : Nat) (chs : List Ch) (R : List Item) : Item.rows 22 1 chC A c chs ∈ chI A c chs R := List.mem_cons_self
theorem chI_ch (A : Option Addr) (c : Nat) (chs : List Ch) (R : List Item) : ∀ x ∈ chs, x.item ∈ chI A c chs R := fun x hx => List.mem_cons_of_mem _ (List.mem_append_left _ (List.mem_map.2 ⟨x, hx, rfl⟩))
theorem chI_rest {A : Option Addr} {c : Nat} {chs : List Ch} {R : List Item} {y : Item} (h : y ∈ R) : y ∈ chI A c chs R := (chI_sub A c chs R).subset h
theorem Hp.chOnto {w0 w w' : World} {R : List Item} {A : Option Addr} {c : Nat} {chs : List Ch} (HB : Hp w w' (.rows 22 1 chC A c chs :: chs.map Ch.item)) (H : Hp w0 w R) : Hp w0 w' (chI A c chs R) := HB.onto H
theorem Hp.chNil {w0 w : World} {R : List Item} (H : Hp w0 w R) : Hp w0 w (chI none 0 [] R) := H.nilRow 22 1
theorem Hp.chSnocR {w w1 : World} {A' A2 : Option Addr} {c' c2 g k : Nat} {e2 : TypeId} {vs : List Value} {l : List UInt8} {chs : List Ch} {R : List Item} (hk : k = chs.length)
    (H : Hp w w1 (.blk g e2 vs :: .bytes A2 c2 l :: .own 22 1 A' (k + 1) c' (rowsC chC chs ++ [.slice A2 l.length c2]) :: (chs.map Ch.item ++ R))) : Hp w w1 (chI A' c' (chs ++ [Ch.mk A2 c2 l]) R) := by
  subst hk
  have H2 := H.tail
  have H3 := H2.perm (L' := .own 22 1 A' (chs.length + 1) c' (rowsC chC chs ++ [.slice A2 l.length c2]) :: (chs.map Ch.item ++ (.bytes A2 c2 l :: R))) ((List.Perm.swap _ _ _).trans (.cons _ List.perm_middle.symm))
  unfold chI
  show Hp w w1 (.own 22 1 A' (chs ++ [Ch.mk A2 c2 l]).length c' (rowsC chC (chs ++ [Ch.mk A2 c2 l])) :: ((chs ++ [Ch.mk A2 c2 l]).map Ch.item ++ R))
  rw [List.map_append, rowsC_snoc, List.length_append, List.append_assoc]
  exact H3
theorem chI_o {A : Option Addr} {c : Nat} {chs : List Ch} {R : List Item} {i : Nat} {x : Ch} (hi : chs[i]? = some x) : (chI A c chs R)[i + 1]? = some x.item := by
  unfold chI
  rw [List.getElem?_cons_succ, List.getElem?_append_left (by rw [List.length_map]; exact (List.getElem?_eq_some_iff.1 hi).1), List.getElem?_map, hi]
  rfl
theorem chI_set {A : Option Addr} {c : Nat} {chs : List Ch} {R : List Item} {i : Nat} {x y : Ch} (hi : chs[i]? = some x) (hy : chC y = chC x) : (chI A c chs R).set (i + 1) y.item = chI A c (chs.set i y) R := by
  obtain ⟨hi', hx⟩ := List.getElem?_eq_some_iff.1 hi
  unfold chI
  have e : rowsC chC (chs.set i y) = rowsC chC chs := by
    unfold rowsC
    rw [List.map_set, hy, ← hx]
    congr 1
    refine List.ext_getElem (by simp) fun k h1 h2 => ?_
    rw [List.getElem_set]
    split
    · next e => subst e; rw [List.getElem_map]
    · rfl
  rw [List.set_cons_succ, List.set_append_left _ _ (by simpa using hi'), List.map_set]
  show _ = Item.own 22 1 A (chs.set i y).length c (rowsC chC (chs.set i y)) :: _
  rw [e, List.length_set]
section
variable {a : Act} {w0 w : World} {Q : Exit → Act → World → Prop} {R : List Item} {ops : Array Oper} {rest : List Oper} {d : Option Tmp} {tt : TypeId} {ps : String} {af : Array Edge} {gd : Option (Nat × Bool)} {x y : Operand}
/-- a byte of one of them is stored -/
theorem Hp.stCh {A : Option Addr} {c : Nat} {chs : List Ch} (H : Hp w0 w (chI A c chs R)) (h : Region.wanted { dst := d, op := .store 5 x y, type := tt, pos := ps, after := af, guard := gd } (yielded ops a.tmps) = true ∧ ∃ g off, a.eval x = .pointer (some ⟨g, off, none⟩) ∧ ∃ v, a.eval y = .int .u8 v ∧ (0 ≤ v ∧ v < 256) ∧
    ∃ i cc l, chs[i]? = some (Ch.mk (some ⟨g, 0, none⟩) cc l) ∧ off < l.length ∧ ∀ (u : UInt8) w', Hp w0 w' (chI A c (chs.set i (Ch.mk (some ⟨g, 0, none⟩) cc (l.set off u))) R) → wpList Try.prog ops Q rest (a.put d undef) w') :
    wpList Try.prog ops Q ({ dst := d, op := .store 5 x y, type := tt, pos := ps, after := af, guard := gd } :: rest) a w := by
  obtain ⟨h1, g, off, hx, v, hy, hv, i, cc, l, hL, hlt, hk⟩ := h
  have hu : ((UInt8.ofNat v.toNat).toNat : Int) = v := by
    rw [UInt8.toNat_ofNat']
    omega
  have hi := chI_o (A := A) (c := c) (R := R) hL
  have h0 := H.setB (i + 1) hi off (UInt8.ofNat v.toNat)
  have he := chI_set (A := A) (c := c) (R := R) hL (y := Ch.mk (some ⟨g, 0, none⟩) cc (l.set off (UInt8.ofNat v.toNat))) (by simp [chC])
  have h2 := hk (UInt8.ofNat v.toNat) _ (he ▸ h0)
  rw [hu] at h2
  have h3 := run_storeAt_cell (P := Try.prog) (v := .int .u8 v) (oneT_s c_u8) ((H.o (i + 1) hi).cell off hlt) ((H.o (i + 1) hi).frozen off) rfl
  refine BigFrame.wpList_want h1 fun K hK => ?_
  unfold Oper.wp
  simp [execOp, hx, hy, h3]
  exact hK _ _ h2
end
/-- the state of the loops that change -/
def SX (w : World) (A : Option Addr) (c n : Nat) (R : List Item) (wr : World) : Prop := ∃ chs : List Ch, chs.length = n ∧ (∀ x ∈ chs, x.l.length ≤ 1000) ∧ Hp w wr (chI A c chs R)
end Go.Proofs.Ytanpglhpmfdnmaa
