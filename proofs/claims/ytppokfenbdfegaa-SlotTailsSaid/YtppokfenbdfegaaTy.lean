/-
  SIZES AND ZERO VALUES of the structs.
-/
import Derived.Test.YtppokfenbdfegaaHeap
namespace Go.Proofs.Ytppokfenbdfegaa
open Go.RowKit
abbrev es : Value := .string ByteArray.empty
theorem c_int : oneT Try.prog 3 = true := by kernel_rfl
theorem c_u8 : oneT Try.prog 5 = true := by kernel_rfl
theorem c_bool : oneT Try.prog 4 = true := by kernel_rfl
theorem c_str : oneT Try.prog 9 = true := by kernel_rfl
theorem c_bytes : oneT Try.prog 24 = true := by kernel_rfl
theorem c_errno : oneT Try.prog 26 = true := by kernel_rfl
theorem c_fb : oneT Try.prog 37 = true := by kernel_rfl
theorem c_fuu : oneT Try.prog 70 = true := by kernel_rfl
theorem c_i64 : oneT Try.prog 2 = true := by kernel_rfl
theorem s_Ballot : sizeT Try.prog 23 = some 2 := by kernel_rfl
theorem s_Op : sizeT Try.prog 41 = some 4 := by kernel_rfl
theorem s_Entry : sizeT Try.prog 43 = some 7 := by kernel_rfl
theorem s_Report : sizeT Try.prog 49 = some 11 := by kernel_rfl
theorem s_Rec : sizeT Try.prog 39 = some 5 := by kernel_rfl
theorem s_Copy : sizeT Try.prog 45 = some 11 := by kernel_rfl
theorem s_Copies : sizeT Try.prog 46 = some 22 := by kernel_rfl
theorem s_Pair : sizeT Try.prog 68 = some 28 := by kernel_rfl
theorem s_Rule : sizeT Try.prog 72 = some 2 := by kernel_rfl
theorem s_Rules : sizeT Try.prog 73 = some 8 := by kernel_rfl
theorem z_Ballot : zeroC Try.prog 23 = some [.int .i64 0, .int .i64 0].toArray := by kernel_rfl
theorem z_Op : zeroC Try.prog 41 = some [.int .u8 0, es, es, es].toArray := by kernel_rfl
theorem z_Entry : zeroC Try.prog 43 = some [.int .u8 0, .int .i64 0, .int .i64 0, .int .u8 0, es, es, es].toArray := by kernel_rfl
theorem z_Report : zeroC Try.prog 49 = some [.int .i64 0, .int .u8 0, .int .i64 0, .int .i64 0, .int .u8 0, .int .i64 0, .int .i64 0, .int .u8 0, es, es, es].toArray := by kernel_rfl
theorem z_Rec : zeroC Try.prog 39 = some [.int .u8 0, .int .i64 0, .int .i64 0, .int .i64 0, .int .i64 0].toArray := by kernel_rfl
theorem z_Copy : zeroC Try.prog 45 = some [.int .u8 0, .int .i64 0, .int .i64 0, .int .i64 0, .int .u8 0, .int .i64 0, .int .i64 0, .int .u8 0, es, es, es].toArray := by kernel_rfl
theorem z_Copies : zeroC Try.prog 46 = some [.int .u8 0, .int .i64 0, .int .i64 0, .int .i64 0, .int .u8 0, .int .i64 0, .int .i64 0, .int .u8 0, es, es, es, .int .u8 0, .int .i64 0, .int .i64 0, .int .i64 0, .int .u8 0, .int .i64 0, .int .i64 0, .int .u8 0, es, es, es].toArray := by kernel_rfl
theorem z_Pair : zeroC Try.prog 68 = some [.int .u8 0, .int .i64 0, .int .i64 0, .int .i64 0, .int .i64 0, .int .u8 0, .int .i64 0, .int .i64 0, .int .i64 0, .int .u8 0, .int .i64 0, .int .i64 0, .int .u8 0, es, es, es, .int .u8 0, .int .i64 0, .int .i64 0, .int .i64 0, .int .u8 0, .int .i64 0, .int .i64 0, .int .u8 0, es, es, es, .int .i64 0].toArray := by kernel_rfl
theorem z_Rule : zeroC Try.prog 72 = some [.nilFunc, .nilFunc].toArray := by kernel_rfl
theorem lookup_mem {b : Type} {l : List (Nat × b)} {x : Nat} {y : b} (h : l.lookup x = some y) : (x, y) ∈ l := by
  induction l with
  | nil => cases h
  | cons p l ih =>
    obtain ⟨u, v⟩ := p
    rw [List.lookup_cons] at h
    cases e : (x == u)
    · rw [e] at h
      exact List.mem_cons_of_mem _ (ih h)
    · rw [e] at h
      injection h with h
      have := beq_iff_eq.1 e
      subst this h
      exact List.mem_cons_self
def cells : List Nat := [3, 5, 4, 9, 24, 26, 37, 70, 2]
def sizes : List (Nat × Nat) := [(23, 2), (41, 4), (43, 7), (49, 11), (39, 5), (45, 11), (46, 22), (68, 28), (72, 2), (73, 8)]
def zeros : List (Nat × List Value) := [(23, [.int .i64 0, .int .i64 0]), (41, [.int .u8 0, es, es, es]), (43, [.int .u8 0, .int .i64 0, .int .i64 0, .int .u8 0, es, es, es]), (49, [.int .i64 0, .int .u8 0, .int .i64 0, .int .i64 0, .int .u8 0, .int .i64 0, .int .i64 0, .int .u8 0, es, es, es]), (39, [.int .u8 0, .int .i64 0, .int .i64 0, .int .i64 0, .int .i64 0]), (45, [.int .u8 0, .int .i64 0, .int .i64 0, .int .i64 0, .int .u8 0, .int .i64 0, .int .i64 0, .int .u8 0, es, es, es]), (46, [.int .u8 0, .int .i64 0, .int .i64 0, .int .i64 0, .int .u8 0, .int .i64 0, .int .i64 0, .int .u8 0, es, es, es, .int .u8 0, .int .i64 0, .int .i64 0, .int .i64 0, .int .u8 0, .int .i64 0, .int .i64 0, .int .u8 0, es, es, es]), (68, [.int .u8 0, .int .i64 0, .int .i64 0, .int .i64 0, .int .i64 0, .int .u8 0, .int .i64 0, .int .i64 0, .int .i64 0, .int .u8 0, .int .i64 0, .int .i64 0, .int .u8 0, es, es, es, .int .u8 0, .int .i64 0, .int .i64 0, .int .i64 0, .int .u8 0, .int .i64 0, .int .i64 0, .int .u8 0, es, es, es, .int .i64 0]), (72, [.nilFunc, .nilFunc])]
theorem cells_ok : cells.all (fun x => oneT Try.prog x) = true := by kernel_rfl
theorem sizes_ok : sizes.all (fun x => sizeT Try.prog x.1 == some x.2) = true := by kernel_rfl
theorem zeros_ok : ∀ x ∈ zeros, zeroC Try.prog x.1 = some x.2.toArray := by
  intro x hx
  unfold zeros at hx
  repeat (first | (rcases List.mem_cons.1 hx with rfl | hx; (· kernel_rfl)) | cases hx)
theorem c_look {ty : Nat} (h : cells.contains ty = true) : oneT Try.prog ty = true := List.all_eq_true.1 cells_ok ty (by simpa using h)
theorem s_look {ty n : Nat} (h : sizes.lookup ty = some n) : sizeT Try.prog ty = some n := by
  have := List.all_eq_true.1 sizes_ok _ (lookup_mem h)
  simpa using this
theorem z_look {ty : Nat} {zs : List Value} (h : zeros.lookup ty = some zs) : zeroC Try.prog ty = some zs.toArray := zeros_ok _ (lookup_mem h)
theorem hs {L : List Item} {y : Item} {g : Nat} {R : Nat → TypeId → List Value → Prop} (h : ∃ i t cs, Has L i (.blk g t cs) ∧ R (i + 1) t cs) : ∃ i t cs, Has (y :: L) i (.blk g t cs) ∧ R i t cs := by
  obtain ⟨i, t, cs, h1, h2⟩ := h
  exact ⟨_, t, cs, .s h1, h2⟩
end Go.Proofs.Ytppokfenbdfegaa
