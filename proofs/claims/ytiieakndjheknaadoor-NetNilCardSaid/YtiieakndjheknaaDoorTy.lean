/-
  SIZES AND ZERO VALUES of the structs.
-/
import Derived.Test.YtiieakndjheknaaDoorHeap
namespace Go.Proofs.YtiieakndjheknaaDoor
open Go.RowKit
abbrev es : Value := .string ByteArray.empty
theorem c_int : oneT Tryd.prog 3 = true := by kernel_rfl
theorem c_u8 : oneT Tryd.prog 5 = true := by kernel_rfl
theorem c_bool : oneT Tryd.prog 4 = true := by kernel_rfl
theorem c_str : oneT Tryd.prog 9 = true := by kernel_rfl
theorem c_bytes : oneT Tryd.prog 32 = true := by kernel_rfl
theorem c_errno : oneT Tryd.prog 28 = true := by kernel_rfl
theorem c_fb : oneT Tryd.prog 73 = true := by kernel_rfl
theorem c_reps : oneT Tryd.prog 31 = true := by kernel_rfl
theorem c_msgs : oneT Tryd.prog 37 = true := by kernel_rfl
theorem c_ints : oneT Tryd.prog 99 = true := by kernel_rfl
theorem c_i64 : oneT Tryd.prog 2 = true := by kernel_rfl
theorem c_u64 : oneT Tryd.prog 74 = true := by kernel_rfl
theorem c_pnet : oneT Tryd.prog 36 = true := by kernel_rfl
theorem s_Net : sizeT Tryd.prog 41 = some 51 := by kernel_rfl
theorem z_Net : zeroC Tryd.prog 41 = some [.int .i64 0, .slice none 0 0, .bool false, .bool false, .bool false, .bool false, .bool false, .bool false, .bool false, .bool false, .bool false, .bool false, .bool false, .bool false, .bool false, .bool false, .bool false, .bool false, .bool false, .bool false, .bool false, .bool false, .bool false, .bool false, .bool false, .bool false, .bool false, .bool false, .bool false, .bool false, .bool false, .bool false, .bool false, .bool false, .bool false, .bool false, .bool false, .bool false, .bool false, .bool false, .bool false, .bool false, .bool false, .bool false, .bool false, .bool false, .bool false, .bool false, .bool false, .bool false, .bool false].toArray := by kernel_rfl
theorem s_Ballot : sizeT Tryd.prog 23 = some 2 := by kernel_rfl
theorem s_Op : sizeT Tryd.prog 25 = some 4 := by kernel_rfl
theorem s_Entry : sizeT Tryd.prog 27 = some 7 := by kernel_rfl
theorem s_Report : sizeT Tryd.prog 71 = some 11 := by kernel_rfl
theorem s_Reply : sizeT Tryd.prog 30 = some 3 := by kernel_rfl
theorem s_Msg : sizeT Tryd.prog 34 = some 27 := by kernel_rfl
theorem z_Ballot : zeroC Tryd.prog 23 = some [.int .i64 0, .int .i64 0].toArray := by kernel_rfl
theorem z_Op : zeroC Tryd.prog 25 = some [.int .u8 0, es, es, es].toArray := by kernel_rfl
theorem z_Entry : zeroC Tryd.prog 27 = some [.int .u8 0, .int .i64 0, .int .i64 0, .int .u8 0, es, es, es].toArray := by kernel_rfl
theorem z_Report : zeroC Tryd.prog 71 = some [.int .i64 0, .int .u8 0, .int .i64 0, .int .i64 0, .int .u8 0, .int .i64 0, .int .i64 0, .int .u8 0, es, es, es].toArray := by kernel_rfl
theorem z_Reply : zeroC Tryd.prog 30 = some [.int .i64 0, .bool false, es].toArray := by kernel_rfl
theorem z_Msg : zeroC Tryd.prog 34 = some [.int .u8 0, .int .i64 0, .int .i64 0, .int .i64 0, .int .i64 0, .int .i64 0, .int .i64 0, .int .i64 0, .int .i64 0, .int .i64 0, .int .i64 0, .int .u8 0, .int .i64 0, .int .i64 0, .int .u8 0, es, es, es, .int .u8 0, es, es, es, .int .i64 0, .bool false, es, .slice none 0 0, .slice none 0 0].toArray := by kernel_rfl
theorem lookup_mem {b : Type} {l : List (Nat × b)} {x : Nat} {y : b} (h : l.lookup x = some y) : (x, y) ∈ l := by
  induction l with
  | nil => cases h
  | cons p l ih =>
    obtain ⟨u, v⟩ := p
    rw [List.lookup_cons] at h
    cases e : (x == u)
    · rw [e] at h
      exact List.mem_cons_of_mem _ (ih h)
    · rw [e] at h
      injection h with h
      have := beq_iff_eq.1 e
      subst this h
      exact List.mem_cons_self
def cells : List Nat := [3, 5, 4, 9, 32, 28, 73, 31, 37, 99, 2, 74, 36]
def sizes : List (Nat × Nat) := [(41, 51), (23, 2), (25, 4), (27, 7), (71, 11), (30, 3), (34, 27)]
def zeros : List (Nat × List Value) := [(41, [.int .i64 0, .slice none 0 0, .bool false, .bool false, .bool false, .bool false, .bool false, .bool false, .bool false, .bool false, .bool false, .bool false, .bool false, .bool false, .bool false, .bool false, .bool false, .bool false, .bool false, .bool false, .bool false, .bool false, .bool false, .bool false, .bool false, .bool false, .bool false, .bool false, .bool false, .bool false, .bool false, .bool false, .bool false, .bool false, .bool false, .bool false, .bool false, .bool false, .bool false, .bool false, .bool false, .bool false, .bool false, .bool false, .bool false, .bool false, .bool false, .bool false, .bool false, .bool false, .bool false]), (23, [.int .i64 0, .int .i64 0]), (25, [.int .u8 0, es, es, es]), (27, [.int .u8 0, .int .i64 0, .int .i64 0, .int .u8 0, es, es, es]), (71, [.int .i64 0, .int .u8 0, .int .i64 0, .int .i64 0, .int .u8 0, .int .i64 0, .int .i64 0, .int .u8 0, es, es, es]), (30, [.int .i64 0, .bool false, es]), (34, [.int .u8 0, .int .i64 0, .int .i64 0, .int .i64 0, .int .i64 0, .int .i64 0, .int .i64 0, .int .i64 0, .int .i64 0, .int .i64 0, .int .i64 0, .int .u8 0, .int .i64 0, .int .i64 0, .int .u8 0, es, es, es, .int .u8 0, es, es, es, .int .i64 0, .bool false, es, .slice none 0 0, .slice none 0 0])]
theorem cells_ok : cells.all (fun x => oneT Tryd.prog x) = true := by kernel_rfl
theorem sizes_ok : sizes.all (fun x => sizeT Tryd.prog x.1 == some x.2) = true := by kernel_rfl
theorem zeros_ok : ∀ x ∈ zeros, zeroC Tryd.prog x.1 = some x.2.toArray := by
  intro x hx
  unfold zeros at hx
  repeat (first | (rcases List.mem_cons.1 hx with rfl | hx; (· kernel_rfl)) | cases hx)
theorem c_look {ty : Nat} (h : cells.contains ty = true) : oneT Tryd.prog ty = true := List.all_eq_true.1 cells_ok ty (by simpa using h)
theorem s_look {ty n : Nat} (h : sizes.lookup ty = some n) : sizeT Tryd.prog ty = some n := by
  have := List.all_eq_true.1 sizes_ok _ (lookup_mem h)
  simpa using this
theorem z_look {ty : Nat} {zs : List Value} (h : zeros.lookup ty = some zs) : zeroC Tryd.prog ty = some zs.toArray := zeros_ok _ (lookup_mem h)
theorem hs {L : List Item} {y : Item} {g : Nat} {R : Nat → TypeId → List Value → Prop} (h : ∃ i t cs, Has L i (.blk g t cs) ∧ R (i + 1) t cs) : ∃ i t cs, Has (y :: L) i (.blk g t cs) ∧ R i t cs := by
  obtain ⟨i, t, cs, h1, h2⟩ := h
  exact ⟨_, t, cs, .s h1, h2⟩
end Go.Proofs.YtiieakndjheknaaDoor
