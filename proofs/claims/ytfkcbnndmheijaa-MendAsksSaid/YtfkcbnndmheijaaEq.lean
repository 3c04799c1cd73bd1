/-
  '==' AND '!=' OF STRUCTS: entries, operations, ballots, each as one value.
-/
import Derived.Test.YtfkcbnndmheijaaEntP
import Derived.Test.YtfkcbnndmheijaaHeapB
import Derived.Laws.StructEq
namespace Go.Proofs.Ytfkcbnndmheijaa
open Go.RowKit
set_option linter.unusedVariables false

def opEq (k : Int) (a b c : ByteArray) (k' : Int) (a' b' c' : ByteArray) : Bool := (k == k') && ((a.toList == a'.toList) && ((b.toList == b'.toList) && (c.toList == c'.toList)))
def enEq (x y : En) : Bool := (x.k == y.k) && ((x.c == y.c) && ((x.s == y.s) && opEq x.ok x.s0 x.s1 x.s2 y.ok y.s0 y.s1 y.s2))
theorem bytes_ext {a b : ByteArray} (h : a.toList = b.toList) : a = b := by
  rw [ByteArray.toList_eq, ByteArray.toList_eq] at h
  exact ByteArray.ext (Array.toList_inj.1 h)
theorem opEq_iff {k : Int} {a b c : ByteArray} {k' : Int} {a' b' c' : ByteArray} : opEq k a b c k' a' b' c' = true ↔ k = k' ∧ a = a' ∧ b = b' ∧ c = c' := by
  unfold opEq
  simp only [Bool.and_eq_true, beq_iff_eq]
  constructor
  · rintro ⟨h1, h2, h3, h4⟩
    exact ⟨h1, bytes_ext h2, bytes_ext h3, bytes_ext h4⟩
  · rintro ⟨rfl, rfl, rfl, rfl⟩
    exact ⟨rfl, rfl, rfl, rfl⟩
theorem enEq_iff {x y : En} : enEq x y = true ↔ x = y := by
  obtain ⟨k, c, s, ok, s0, s1, s2⟩ := x
  obtain ⟨k', c', s', ok', s0', s1', s2'⟩ := y
  unfold enEq
  simp only [Bool.and_eq_true, beq_iff_eq, opEq_iff, En.mk.injEq]
theorem enEq_self (x : En) : enEq x x = true := enEq_iff.2 rfl
theorem empty_toList : ByteArray.empty.toList = [] := by rw [ByteArray.toList_eq]; rfl
theorem mt_beq (s : ByteArray) : (s.toList == ByteArray.empty.toList) = mtB s := by
  rw [empty_toList, mtB]
  cases s.toList <;> rfl
theorem enEq_noop (e : En) : enEq e noop = isNoop e := by
  unfold enEq isNoop opEq noop
  simp only [mt_beq]

set_option maxHeartbeats 400000 in
theorem eq_op (k : Int) (a b c : ByteArray) (k' : Int) (a' b' c' : ByteArray) (d : Nat) (w : World) : (Op.equalIn (d + 1 + 1) 36 (.agg (opC k a b c).toArray) (.agg (opC k' a' b' c').toArray)).run Try.prog w = .ok (opEq k a b c k' a' b' c') w := by
  have u3 := Try.underlying5
  have u4 := Try.underlying9
  have hS : Try.prog.underlying 36 = some (.struct (Try.prog.fieldsOf 36)) := by kernel_rfl
  rw [run_equalIn_agg w _ 36 _ _ hS (by kernel_rfl)]
  simp only [Program.fieldsOf, Try.underlying36, opC]
  go_simp
  unfold opEq
  cases h1 : (k == k') <;> cases h2 : (a.toList == a'.toList) <;> cases h3 : (b.toList == b'.toList) <;> cases h4 : (c.toList == c'.toList) <;> simp_all
set_option maxHeartbeats 400000 in
theorem eq_en (x y : En) (d : Nat) (w : World) : (Op.equalIn (d + 1 + 1 + 1) 38 (.agg (enC x).toArray) (.agg (enC y).toArray)).run Try.prog w = .ok (enEq x y) w := by
  have u3 := Try.underlying5
  have u4 := Try.underlying3
  have hS : Try.prog.underlying 38 = some (.struct (Try.prog.fieldsOf 38)) := by kernel_rfl
  have ho := eq_op x.ok x.s0 x.s1 x.s2 y.ok y.s0 y.s1 y.s2 d
  simp only [opC] at ho
  rw [run_equalIn_agg w _ 38 _ _ hS (by kernel_rfl)]
  simp only [Program.fieldsOf, Try.underlying38, enC]
  go_simp
  unfold enEq
  cases h1 : (x.k == y.k) <;> cases h2 : (x.c == y.c) <;> cases h3 : (x.s == y.s) <;> cases h4 : opEq x.ok x.s0 x.s1 x.s2 y.ok y.s0 y.s1 y.s2 <;> simp_all
set_option maxHeartbeats 400000 in
theorem eq_ba (r p r' p' : Int) (d : Nat) (w : World) : (Op.equalIn (d + 1 + 1) 34 (.agg #[.int .i64 r, .int .i64 p]) (.agg #[.int .i64 r', .int .i64 p'])).run Try.prog w = .ok ((r == r') && (p == p')) w := by
  have u4 := Try.underlying3
  have hS : Try.prog.underlying 34 = some (.struct (Try.prog.fieldsOf 34)) := by kernel_rfl
  rw [run_equalIn_agg w _ 34 _ _ hS (by kernel_rfl)]
  simp only [Program.fieldsOf, Try.underlying34]
  go_simp
  cases h1 : (r == r') <;> cases h2 : (p == p') <;> simp_all

section
variable {P : Program} {a : Act} {w0 w : World} {Q : Exit → Act → World → Prop} {L : List Item} {ops : Array Oper} {rest : List Oper} {d : Option Tmp} {ty tt t2 : TypeId} {x y : Operand} {ps : String} {af : Array Edge} {gd : Option (Nat × Bool)}
theorem wl_val {o : Oper} (v : Value) (hw : Region.wanted o (yielded ops a.tmps) = true) (he : (execOp a.eval o).run P w = .ok (.value v) w) (hk : wpList P ops Q rest (a.put o.dst v) w) : wpList P ops Q (o :: rest) a w := by
  refine BigFrame.wpList_want hw fun K hK => ?_
  unfold Oper.wp
  rw [he]
  exact hK _ _ hk
end
section
variable {a : Act} {w : World} {x y : Operand} {u v : En} {k k' : Int} {s0 s1 s2 s0' s1' s2' : ByteArray} {r p r' p' : Int} {o : Oper} {t2 : TypeId}
theorem ex_eqEn (ho : o.op = .binOp .eql 38 x y t2) (hx : a.eval x = .agg (enC u).toArray) (hy : a.eval y = .agg (enC v).toArray) : (execOp a.eval o).run Try.prog w = .ok (.value (.bool (enEq u v))) w := by
  simp only [execOp, ho, hx, hy]
  have hm : Try.prog.eqGuardType Try.prog.depth 38 = false := by kernel_rfl
  simp [run_eqGuard_agg w _ _ _ _ _ _ hm, run_eql_struct, eq_en u v 9997 w]
theorem ex_neEn (ho : o.op = .binOp .neq 38 x y t2) (hx : a.eval x = .agg (enC u).toArray) (hy : a.eval y = .agg (enC v).toArray) : (execOp a.eval o).run Try.prog w = .ok (.value (.bool (!enEq u v))) w := by
  simp only [execOp, ho, hx, hy]
  have hm : Try.prog.eqGuardType Try.prog.depth 38 = false := by kernel_rfl
  simp [run_eqGuard_agg w _ _ _ _ _ _ hm, run_neq_struct, eq_en u v 9997 w]
theorem ex_eqOp (ho : o.op = .binOp .eql 36 x y t2) (hx : a.eval x = .agg (opC k s0 s1 s2).toArray) (hy : a.eval y = .agg (opC k' s0' s1' s2').toArray) : (execOp a.eval o).run Try.prog w = .ok (.value (.bool (opEq k s0 s1 s2 k' s0' s1' s2'))) w := by
  simp only [execOp, ho, hx, hy]
  have hm : Try.prog.eqGuardType Try.prog.depth 36 = false := by kernel_rfl
  simp [run_eqGuard_agg w _ _ _ _ _ _ hm, run_eql_struct, eq_op k s0 s1 s2 k' s0' s1' s2' 9998 w]
theorem ex_neOp (ho : o.op = .binOp .neq 36 x y t2) (hx : a.eval x = .agg (opC k s0 s1 s2).toArray) (hy : a.eval y = .agg (opC k' s0' s1' s2').toArray) : (execOp a.eval o).run Try.prog w = .ok (.value (.bool (!opEq k s0 s1 s2 k' s0' s1' s2'))) w := by
  simp only [execOp, ho, hx, hy]
  have hm : Try.prog.eqGuardType Try.prog.depth 36 = false := by kernel_rfl
  simp [run_eqGuard_agg w _ _ _ _ _ _ hm, run_neq_struct, eq_op k s0 s1 s2 k' s0' s1' s2' 9998 w]
end
section
variable {a : Act} {w0 w : World} {Q : Exit → Act → World → Prop} {L : List Item} {ops : Array Oper} {rest : List Oper} {d : Option Tmp} {tt t2 : TypeId} {x y : Operand} {ps : String} {af : Array Edge} {gd : Option (Nat × Bool)}
theorem wl_eqEn (h : Region.wanted { dst := d, op := .binOp .eql 38 x y t2, type := tt, pos := ps, after := af, guard := gd } (yielded ops a.tmps) = true ∧ ∃ u v, a.eval x = .agg (enC u).toArray ∧ a.eval y = .agg (enC v).toArray ∧ wpList Try.prog ops Q rest (a.put d (.bool (enEq u v))) w) :
    wpList Try.prog ops Q ({ dst := d, op := .binOp .eql 38 x y t2, type := tt, pos := ps, after := af, guard := gd } :: rest) a w := by
  obtain ⟨h1, u, v, hx, hy, h2⟩ := h
  exact wl_val _ h1 (ex_eqEn rfl hx hy) h2
theorem wl_neEn (h : Region.wanted { dst := d, op := .binOp .neq 38 x y t2, type := tt, pos := ps, after := af, guard := gd } (yielded ops a.tmps) = true ∧ ∃ u v, a.eval x = .agg (enC u).toArray ∧ a.eval y = .agg (enC v).toArray ∧ wpList Try.prog ops Q rest (a.put d (.bool (!enEq u v))) w) :
    wpList Try.prog ops Q ({ dst := d, op := .binOp .neq 38 x y t2, type := tt, pos := ps, after := af, guard := gd } :: rest) a w := by
  obtain ⟨h1, u, v, hx, hy, h2⟩ := h
  exact wl_val _ h1 (ex_neEn rfl hx hy) h2
theorem wl_eqOp (h : Region.wanted { dst := d, op := .binOp .eql 36 x y t2, type := tt, pos := ps, after := af, guard := gd } (yielded ops a.tmps) = true ∧ ∃ k s0 s1 s2 k' s0' s1' s2', a.eval x = .agg (opC k s0 s1 s2).toArray ∧ a.eval y = .agg (opC k' s0' s1' s2').toArray ∧ wpList Try.prog ops Q rest (a.put d (.bool (opEq k s0 s1 s2 k' s0' s1' s2'))) w) :
    wpList Try.prog ops Q ({ dst := d, op := .binOp .eql 36 x y t2, type := tt, pos := ps, after := af, guard := gd } :: rest) a w := by
  obtain ⟨h1, _, _, _, _, _, _, _, _, hx, hy, h2⟩ := h
  exact wl_val _ h1 (ex_eqOp rfl hx hy) h2
theorem wl_neOp (h : Region.wanted { dst := d, op := .binOp .neq 36 x y t2, type := tt, pos := ps, after := af, guard := gd } (yielded ops a.tmps) = true ∧ ∃ k s0 s1 s2 k' s0' s1' s2', a.eval x = .agg (opC k s0 s1 s2).toArray ∧ a.eval y = .agg (opC k' s0' s1' s2').toArray ∧ wpList Try.prog ops Q rest (a.put d (.bool (!opEq k s0 s1 s2 k' s0' s1' s2'))) w) :
    wpList Try.prog ops Q ({ dst := d, op := .binOp .neq 36 x y t2, type := tt, pos := ps, after := af, guard := gd } :: rest) a w := by
  obtain ⟨h1, _, _, _, _, _, _, _, _, hx, hy, h2⟩ := h
  exact wl_val _ h1 (ex_neOp rfl hx hy) h2
end
end Go.Proofs.Ytfkcbnndmheijaa
