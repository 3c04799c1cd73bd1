/-
  SIZES AND ZERO VALUES of the structs.
-/
import Derived.Test.YtfkcbnndmheijaaHeap
namespace Go.Proofs.Ytfkcbnndmheijaa
open Go.RowKit
abbrev es : Value := .string ByteArray.empty
theorem c_int : oneT Try.prog 3 = true := by kernel_rfl
theorem c_u8 : oneT Try.prog 5 = true := by kernel_rfl
theorem c_bool : oneT Try.prog 4 = true := by kernel_rfl
theorem c_str : oneT Try.prog 9 = true := by kernel_rfl
theorem c_bytes : oneT Try.prog 43 = true := by kernel_rfl
theorem c_errno : oneT Try.prog 39 = true := by kernel_rfl
theorem c_fb : oneT Try.prog 30 = true := by kernel_rfl
theorem c_reps : oneT Try.prog 42 = true := by kernel_rfl
theorem c_msgs : oneT Try.prog 28 = true := by kernel_rfl
theorem c_ints : oneT Try.prog 22 = true := by kernel_rfl
theorem c_i64 : oneT Try.prog 2 = true := by kernel_rfl
theorem s_Ballot : sizeT Try.prog 34 = some 2 := by kernel_rfl
theorem s_Op : sizeT Try.prog 36 = some 4 := by kernel_rfl
theorem s_Entry : sizeT Try.prog 38 = some 7 := by kernel_rfl
theorem s_Report : sizeT Try.prog 47 = some 11 := by kernel_rfl
theorem s_Reply : sizeT Try.prog 41 = some 3 := by kernel_rfl
theorem s_Msg : sizeT Try.prog 45 = some 27 := by kernel_rfl
theorem s_Need : sizeT Try.prog 24 = some 11 := by kernel_rfl
theorem s_Have : sizeT Try.prog 49 = some 17 := by kernel_rfl
theorem z_Ballot : zeroC Try.prog 34 = some [.int .i64 0, .int .i64 0].toArray := by kernel_rfl
theorem z_Op : zeroC Try.prog 36 = some [.int .u8 0, es, es, es].toArray := by kernel_rfl
theorem z_Entry : zeroC Try.prog 38 = some [.int .u8 0, .int .i64 0, .int .i64 0, .int .u8 0, es, es, es].toArray := by kernel_rfl
theorem z_Report : zeroC Try.prog 47 = some [.int .i64 0, .int .u8 0, .int .i64 0, .int .i64 0, .int .u8 0, .int .i64 0, .int .i64 0, .int .u8 0, es, es, es].toArray := by kernel_rfl
theorem z_Reply : zeroC Try.prog 41 = some [.int .i64 0, .bool false, es].toArray := by kernel_rfl
theorem z_Msg : zeroC Try.prog 45 = some [.int .u8 0, .int .i64 0, .int .i64 0, .int .i64 0, .int .i64 0, .int .i64 0, .int .i64 0, .int .i64 0, .int .i64 0, .int .i64 0, .int .i64 0, .int .u8 0, .int .i64 0, .int .i64 0, .int .u8 0, es, es, es, .int .u8 0, es, es, es, .int .i64 0, .bool false, es, .slice none 0 0, .slice none 0 0].toArray := by kernel_rfl
theorem z_Need : zeroC Try.prog 24 = some [.int .i64 0, .int .i64 0, .int .i64 0, .bool false, .int .i64 0, .slice none 0 0, .slice none 0 0, .int .i64 0, .int .i64 0, .int .i64 0, .int .i64 0].toArray := by kernel_rfl
theorem z_Have : zeroC Try.prog 49 = some [.int .i64 0, .int .i64 0, .int .i64 0, .int .i64 0, .int .i64 0, .int .u8 0, .int .i64 0, .int .i64 0, .int .u8 0, .int .i64 0, .int .i64 0, .int .u8 0, es, es, es, .slice none 0 0, .bool false].toArray := by kernel_rfl
theorem lookup_mem {b : Type} {l : List (Nat × b)} {x : Nat} {y : b} (h : l.lookup x = some y) : (x, y) ∈ l := by
  induction l with
  | nil => cases h
  | cons p l ih =>
    obtain ⟨u, v⟩ := p
    rw [List.lookup_cons] at h
    cases e : (x == u)
    · rw [e] at h
      exact List.mem_cons_of_mem _ (ih h)
    · rw [e] at h
      injection h with h
      have := beq_iff_eq.1 e
      subst this h
      exact List.mem_cons_self
def cells : List Nat := [3, 5, 4, 9, 43, 39, 30, 42, 28, 22, 2]
def sizes : List (Nat × Nat) := [(34, 2), (36, 4), (38, 7), (47, 11), (41, 3), (45, 27), (24, 11), (49, 17)]
def zeros : List (Nat × List Value) := [(34, [.int .i64 0, .int .i64 0]), (36, [.int .u8 0, es, es, es]), (38, [.int .u8 0, .int .i64 0, .int .i64 0, .int .u8 0, es, es, es]), (47, [.int .i64 0, .int .u8 0, .int .i64 0, .int .i64 0, .int .u8 0, .int .i64 0, .int .i64 0, .int .u8 0, es, es, es]), (41, [.int .i64 0, .bool false, es]), (45, [.int .u8 0, .int .i64 0, .int .i64 0, .int .i64 0, .int .i64 0, .int .i64 0, .int .i64 0, .int .i64 0, .int .i64 0, .int .i64 0, .int .i64 0, .int .u8 0, .int .i64 0, .int .i64 0, .int .u8 0, es, es, es, .int .u8 0, es, es, es, .int .i64 0, .bool false, es, .slice none 0 0, .slice none 0 0]), (24, [.int .i64 0, .int .i64 0, .int .i64 0, .bool false, .int .i64 0, .slice none 0 0, .slice none 0 0, .int .i64 0, .int .i64 0, .int .i64 0, .int .i64 0]), (49, [.int .i64 0, .int .i64 0, .int .i64 0, .int .i64 0, .int .i64 0, .int .u8 0, .int .i64 0, .int .i64 0, .int .u8 0, .int .i64 0, .int .i64 0, .int .u8 0, es, es, es, .slice none 0 0, .bool false])]
theorem cells_ok : cells.all (fun x => oneT Try.prog x) = true := by kernel_rfl
theorem sizes_ok : sizes.all (fun x => sizeT Try.prog x.1 == some x.2) = true := by kernel_rfl
theorem zeros_ok : ∀ x ∈ zeros, zeroC Try.prog x.1 = some x.2.toArray := by
  intro x hx
  unfold zeros at hx
  repeat (first | (rcases List.mem_cons.1 hx with rfl | hx; (· kernel_rfl)) | cases hx)
theorem c_look {ty : Nat} (h : cells.contains ty = true) : oneT Try.prog ty = true := List.all_eq_true.1 cells_ok ty (by simpa using h)
theorem s_look {ty n : Nat} (h : sizes.lookup ty = some n) : sizeT Try.prog ty = some n := by
  have := List.all_eq_true.1 sizes_ok _ (lookup_mem h)
  simpa using this
theorem z_look {ty : Nat} {zs : List Value} (h : zeros.lookup ty = some zs) : zeroC Try.prog ty = some zs.toArray := zeros_ok _ (lookup_mem h)
theorem hs {L : List Item} {y : Item} {g : Nat} {R : Nat → TypeId → List Value → Prop} (h : ∃ i t cs, Has L i (.blk g t cs) ∧ R (i + 1) t cs) : ∃ i t cs, Has (y :: L) i (.blk g t cs) ∧ R i t cs := by
  obtain ⟨i, t, cs, h1, h2⟩ := h
  exact ⟨_, t, cs, .s h1, h2⟩
end Go.Proofs.Ytfkcbnndmheijaa
