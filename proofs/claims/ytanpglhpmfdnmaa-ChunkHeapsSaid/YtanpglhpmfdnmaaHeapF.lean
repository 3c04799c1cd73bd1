/-
  MORE OF THE SMALL HEAP: slices that are built out of their parts; '==' of structs whose answer is known.
-/
import Derived.Test.YtanpglhpmfdnmaaHeapE
namespace Go.Proofs.Ytanpglhpmfdnmaa
open Go.RowKit
set_option linter.unusedVariables false

theorem run_bsl {P : Program} {t e : TypeId} {i : TypeInfo} {z : Value} (w : World) (ht : P.underlying t = some (.slice e)) (hi : P.info? e = some i) (hz : i.zero = some z) (hs : i.size = 1) (n : Nat) (hn : n ≤ 16777216) (hn0 : 0 < n) (parts : Array (Nat × Value)) (vs : List Value)
    (hf : Instr.fill (fun k => some (k * 1, 1)) ((Array.range (n * 1)).map (fun k => z.cells[k % z.cells.size]!)) parts.toList = some vs.toArray) :
    (Instr.buildSlice t n parts).run P w = .ok (.slice (some ⟨w.heap.size, 0, none⟩) n n) (w.alloc (.cells vs.toArray e)) := by
  have h1 : ¬ (16777216 < n) := by omega
  have h0 : ¬ (n = 0) := by omega
  simp only [Nat.mul_one] at hf
  unfold Instr.buildSlice
  simp [run_underlying ht, sizeOf, typeInfo, hi, hs, zeroValue, hz, h1, h0, newRow, hf]
/-- numbered from k on -/
def nums : Nat → List Value → List (Nat × Value)
  | _, [] => []
  | k, v :: vs => (k, v) :: nums (k + 1) vs
theorem fill_nums : ∀ (vs : List Value) (k : Nat) (cells : List Value), vs.all (·.oneCell') = true → cells.length = k + vs.length → Instr.fill (fun k => some (k * 1, 1)) cells.toArray (nums k vs) = some (cells.take k ++ vs).toArray
  | [], k, cells, _, hl => by
    simp only [List.length_nil, Nat.add_zero] at hl
    simp [nums, Instr.fill, ← hl]
  | v :: vs, k, cells, h1, hl => by
    simp only [List.all_cons, Bool.and_eq_true] at h1
    simp only [List.length_cons] at hl
    have hc : v.cells = #[v] := by
      have := h1.1
      cases v <;> first | rfl | cases this
    have hk : ¬ (cells.length < k + 1) := by omega
    have ih := fill_nums vs (k + 1) (cells.set k v) h1.2 (by rw [List.length_set]; omega)
    unfold nums Instr.fill
    simp only [Nat.mul_one] at ih
    simp [hc, hk]
    rw [ih]
    congr 2
    rw [List.take_set, List.take_succ_eq_append_getElem (by omega), List.set_append_right _ _ (by simp; omega)]
    simp [Nat.min_eq_left (show k ≤ cells.length by omega)]
theorem u8_i : (Try.prog.info? 5).map (fun i => (i.zero, i.size)) = some (some (.int .u8 0), 1) := by kernel_rfl
theorem str_i : (Try.prog.info? 9).map (fun i => (i.zero, i.size)) = some (some (.string ByteArray.empty), 1) := by kernel_rfl
section
variable {a : Act} {w0 w : World} {Q : Exit → Act → World → Prop} {L : List Item} {ops : Array Oper} {rest : List Oper} {d : Option Tmp} {tt : TypeId} {ps : String} {af : Array Edge} {gd : Option (Nat × Bool)}
/-- bytes that are built -/
theorem Hp.bslB (H : Hp w0 w L) {n : Nat} {parts : List (Nat × Operand)} (h : Region.wanted { dst := d, op := .buildSlice 22 n parts.toArray, type := tt, pos := ps, after := af, guard := gd } (yielded ops a.tmps) = true ∧ Nat.ble n 1000 = true ∧ Nat.ble 1 n = true ∧
    ∃ vs : List Value, (parts.map fun x => (x.1, a.eval x.2)) = nums 0 vs ∧ ∃ l : List UInt8, vs = bvs l ∧ l.length = n ∧
    ∀ g w', Hp w0 w' (.bytes (some ⟨g, 0, none⟩) n l :: L) → wpList Try.prog ops Q rest (a.put d (.slice (some ⟨g, 0, none⟩) n n)) w') :
    wpList Try.prog ops Q ({ dst := d, op := .buildSlice 22 n parts.toArray, type := tt, pos := ps, after := af, guard := gd } :: rest) a w := by
  obtain ⟨h1, h2, h2', vs, h3, l, h4, h5, h6⟩ := h
  have hn := Nat.le_of_ble_eq_true h2
  have hn1 := Nat.le_of_ble_eq_true h2'
  subst h4
  refine BigFrame.wpList_want h1 fun K hK => ?_
  cases hi : Try.prog.info? 5 with
  | none => have := u8_i; rw [hi] at this; cases this
  | some i =>
    have hu := u8_i
    rw [hi] at hu
    simp only [Option.map_some, Option.some.injEq, Prod.mk.injEq] at hu
    have hr := run_bsl (P := Try.prog) w u8_slice hi hu.1 hu.2 n (by omega) (by omega) (parts.map fun x => (x.1, a.eval x.2)).toArray (bvs l) (by
      have hf := fill_nums (bvs l) 0 ((Array.range (n * 1)).map (fun k => (Value.int .u8 0).cells[k % (Value.int .u8 0).cells.size]!)).toList (List.all_eq_true.2 (bvs_one l)) (by simp [bvs_length, h5])
      rw [List.take_zero, List.nil_append] at hf
      rw [show (parts.map fun x => (x.1, a.eval x.2)).toArray.toList = nums 0 (bvs l) from h3, ← hf])
    have ho : Own (w.alloc (.cells (bvs l).toArray 5)) w0.heap.size (some ⟨w.heap.size, 0, none⟩) n l := own_lit w _ l _ rfl H.size (by unfold maxLen; omega) n h5.symm
    have H1 : Hp w0 (w.alloc (.cells (bvs l).toArray 5)) (.bytes (some ⟨w.heap.size, 0, none⟩) n l :: L) :=
      H.new (H.below.alloc H.size _) (by simp) (fun k hk => Below.heap_alloc w _ k hk) ho (fun k hk => by simp [Item.foot] at hk; subst hk; simp)
    have h7 := h6 _ _ H1
    have he : (execOp a.eval { dst := d, op := .buildSlice 22 n parts.toArray, type := tt, pos := ps, after := af, guard := gd }).run Try.prog w = .ok (.value (.slice (some ⟨w.heap.size, 0, none⟩) n n)) (w.alloc (.cells (bvs l).toArray 5)) := by
      have e : (parts.toArray.map fun x => (x.1, a.eval x.2)) = (parts.map fun x => (x.1, a.eval x.2)).toArray := by simp
      simp only [execOp, e]
      simp [hr]
    unfold Oper.wp
    rw [he]
    exact hK _ _ h7
end
end Go.Proofs.Ytanpglhpmfdnmaa
