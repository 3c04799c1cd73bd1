/-
  SIZES AND ZERO VALUES of the structs.
-/
import Derived.Test.YtkfpiojhfjmnaaaHeap
namespace Go.Proofs.Ytkfpiojhfjmnaaa
open Go.RowKit
abbrev es : Value := .string ByteArray.empty
theorem c_int : oneT Try.prog 3 = true := by kernel_rfl
theorem c_u8 : oneT Try.prog 5 = true := by kernel_rfl
theorem c_bool : oneT Try.prog 4 = true := by kernel_rfl
theorem c_str : oneT Try.prog 9 = true := by kernel_rfl
theorem c_bytes : oneT Try.prog 29 = true := by kernel_rfl
theorem c_errno : oneT Try.prog 30 = true := by kernel_rfl
theorem c_fb : oneT Try.prog 51 = true := by kernel_rfl
theorem c_i64 : oneT Try.prog 2 = true := by kernel_rfl
theorem c_pstr : oneT Try.prog 80 = true := by kernel_rfl
theorem c_u64 : oneT Try.prog 55 = true := by kernel_rfl
theorem s_Ballot : sizeT Try.prog 23 = some 2 := by kernel_rfl
theorem s_Op : sizeT Try.prog 25 = some 4 := by kernel_rfl
theorem s_Entry : sizeT Try.prog 27 = some 7 := by kernel_rfl
theorem s_Pen : sizeT Try.prog 58 = some 3 := by kernel_rfl
theorem z_Ballot : zeroC Try.prog 23 = some [.int .i64 0, .int .i64 0].toArray := by kernel_rfl
theorem z_Op : zeroC Try.prog 25 = some [.int .u8 0, es, es, es].toArray := by kernel_rfl
theorem z_Entry : zeroC Try.prog 27 = some [.int .u8 0, .int .i64 0, .int .i64 0, .int .u8 0, es, es, es].toArray := by kernel_rfl
theorem z_Pen : zeroC Try.prog 58 = some [.slice none 0 0, .int .i64 0, .bool false].toArray := by kernel_rfl

theorem lookup_mem {b : Type} {l : List (Nat × b)} {x : Nat} {y : b} (h : l.lookup x = some y) : (x, y) ∈ l := by
  induction l with
  | nil => cases h
  | cons p l ih =>
    obtain ⟨u, v⟩ := p
    rw [List.lookup_cons] at h
    cases e : (x == u)
    · rw [e] at h
      exact List.mem_cons_of_mem _ (ih h)
    · rw [e] at h
      injection h with h
      have := beq_iff_eq.1 e
      subst this h
      exact List.mem_cons_self
def cells : List Nat := [3, 5, 4, 9, 29, 30, 51, 2, 80, 55]
def sizes : List (Nat × Nat) := [(23, 2), (25, 4), (27, 7), (58, 3)]
def zeros : List (Nat × List Value) := [(23, [.int .i64 0, .int .i64 0]), (25, [.int .u8 0, es, es, es]), (27, [.int .u8 0, .int .i64 0, .int .i64 0, .int .u8 0, es, es, es]), (58, [.slice none 0 0, .int .i64 0, .bool false])]
theorem cells_ok : cells.all (fun x => oneT Try.prog x) = true := by kernel_rfl
theorem sizes_ok : sizes.all (fun x => sizeT Try.prog x.1 == some x.2) = true := by kernel_rfl
theorem zeros_ok : ∀ x ∈ zeros, zeroC Try.prog x.1 = some x.2.toArray := by
  intro x hx
  unfold zeros at hx
  repeat (first | (rcases List.mem_cons.1 hx with rfl | hx; (· kernel_rfl)) | cases hx)
theorem c_look {ty : Nat} (h : cells.contains ty = true) : oneT Try.prog ty = true := List.all_eq_true.1 cells_ok ty (by simpa using h)
theorem s_look {ty n : Nat} (h : sizes.lookup ty = some n) : sizeT Try.prog ty = some n := by
  have := List.all_eq_true.1 sizes_ok _ (lookup_mem h)
  simpa using this
theorem z_look {ty : Nat} {zs : List Value} (h : zeros.lookup ty = some zs) : zeroC Try.prog ty = some zs.toArray := zeros_ok _ (lookup_mem h)
theorem hs {L : List Item} {y : Item} {g : Nat} {R : Nat → TypeId → List Value → Prop} (h : ∃ i t cs, Has L i (.blk g t cs) ∧ R (i + 1) t cs) : ∃ i t cs, Has (y :: L) i (.blk g t cs) ∧ R i t cs := by
  obtain ⟨i, t, cs, h1, h2⟩ := h
  exact ⟨_, t, cs, .s h1, h2⟩
end Go.Proofs.Ytkfpiojhfjmnaaa
