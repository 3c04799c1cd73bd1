/-
  SIZES AND ZERO VALUES of the structs.
-/
import Derived.Test.YtanpglhpmfdnmaaHeap
namespace Go.Proofs.Ytanpglhpmfdnmaa
open Go.RowKit
abbrev es : Value := .string ByteArray.empty
theorem c_int : oneT Try.prog 3 = true := by kernel_rfl
theorem c_u8 : oneT Try.prog 5 = true := by kernel_rfl
theorem c_bool : oneT Try.prog 4 = true := by kernel_rfl
theorem c_str : oneT Try.prog 9 = true := by kernel_rfl
theorem c_bytes : oneT Try.prog 22 = true := by kernel_rfl
theorem c_errno : oneT Try.prog 24 = true := by kernel_rfl
theorem c_fb : oneT Try.prog 71 = true := by kernel_rfl
theorem c_ints : oneT Try.prog 45 = true := by kernel_rfl
theorem c_i64 : oneT Try.prog 2 = true := by kernel_rfl
theorem c_LL : oneT Try.prog 61 = true := by kernel_rfl
theorem c_mch : oneT Try.prog 36 = true := by kernel_rfl
theorem c_bools : oneT Try.prog 72 = true := by kernel_rfl
theorem c_u64 : oneT Try.prog 73 = true := by kernel_rfl
theorem z_LL : zeroC Try.prog 61 = some [.slice none 0 0].toArray := by kernel_rfl
theorem lookup_mem {b : Type} {l : List (Nat × b)} {x : Nat} {y : b} (h : l.lookup x = some y) : (x, y) ∈ l := by
  induction l with
  | nil => cases h
  | cons p l ih =>
    obtain ⟨u, v⟩ := p
    rw [List.lookup_cons] at h
    cases e : (x == u)
    · rw [e] at h
      exact List.mem_cons_of_mem _ (ih h)
    · rw [e] at h
      injection h with h
      have := beq_iff_eq.1 e
      subst this h
      exact List.mem_cons_self
def cells : List Nat := [3, 5, 4, 9, 22, 24, 71, 45, 2, 61, 36, 72, 73]
def sizes : List (Nat × Nat) := []
def zeros : List (Nat × List Value) := [(61, [.slice none 0 0])]
theorem cells_ok : cells.all (fun x => oneT Try.prog x) = true := by kernel_rfl
theorem sizes_ok : sizes.all (fun x => sizeT Try.prog x.1 == some x.2) = true := by kernel_rfl
theorem zeros_ok : ∀ x ∈ zeros, zeroC Try.prog x.1 = some x.2.toArray := by
  intro x hx
  unfold zeros at hx
  repeat (first | (rcases List.mem_cons.1 hx with rfl | hx; (· kernel_rfl)) | cases hx)
theorem c_look {ty : Nat} (h : cells.contains ty = true) : oneT Try.prog ty = true := List.all_eq_true.1 cells_ok ty (by simpa using h)
theorem s_look {ty n : Nat} (h : sizes.lookup ty = some n) : sizeT Try.prog ty = some n := by
  have := List.all_eq_true.1 sizes_ok _ (lookup_mem h)
  simpa using this
theorem z_look {ty : Nat} {zs : List Value} (h : zeros.lookup ty = some zs) : zeroC Try.prog ty = some zs.toArray := zeros_ok _ (lookup_mem h)
theorem hs {L : List Item} {y : Item} {g : Nat} {R : Nat → TypeId → List Value → Prop} (h : ∃ i t cs, Has L i (.blk g t cs) ∧ R (i + 1) t cs) : ∃ i t cs, Has (y :: L) i (.blk g t cs) ∧ R i t cs := by
  obtain ⟨i, t, cs, h1, h2⟩ := h
  exact ⟨_, t, cs, .s h1, h2⟩
end Go.Proofs.Ytanpglhpmfdnmaa
