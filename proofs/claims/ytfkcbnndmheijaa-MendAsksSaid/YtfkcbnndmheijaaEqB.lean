/-
  '!=' OF STRUCTS THAT ARE THE SAME.
-/
import Derived.Test.YtfkcbnndmheijaaHeapH
namespace Go.Proofs.Ytfkcbnndmheijaa
open Go.RowKit
set_option linter.unusedVariables false
theorem eq_re (k : Int) (b : Bool) (s : ByteArray) (k' : Int) (b' : Bool) (s' : ByteArray) (d : Nat) (w : World) : (Op.equalIn (d + 1 + 1) 41 (.agg #[.int .i64 k, .bool b, .string s]) (.agg #[.int .i64 k', .bool b', .string s'])).run Try.prog w = .ok ((k == k') && ((b == b') && (s.toList == s'.toList))) w := by
  have u3 := Try.underlying39
  have u4 := Try.underlying4
  have u5 := Try.underlying9
  have hS : Try.prog.underlying 41 = some (.struct (Try.prog.fieldsOf 41)) := by kernel_rfl
  rw [run_equalIn_agg w _ 41 _ _ hS (by kernel_rfl)]
  simp only [Program.fieldsOf, Try.underlying41]
  go_simp
  cases h1 : (k == k') <;> cases h2 : (b == b') <;> cases h3 : (s.toList == s'.toList) <;> simp_all
section
variable {a : Act} {w0 w : World} {Q : Exit → Act → World → Prop} {ops : Array Oper} {rest : List Oper} {d : Option Tmp} {tt t2 : TypeId} {x y : Operand} {ps : String} {af : Array Edge} {gd : Option (Nat × Bool)}
theorem wl_nsEn (h : Region.wanted { dst := d, op := .binOp .neq 38 x y t2, type := tt, pos := ps, after := af, guard := gd } (yielded ops a.tmps) = true ∧ ∃ u, a.eval x = .agg (enC u).toArray ∧ a.eval y = .agg (enC u).toArray ∧ wpList Try.prog ops Q rest (a.put d (.bool false)) w) :
    wpList Try.prog ops Q ({ dst := d, op := .binOp .neq 38 x y t2, type := tt, pos := ps, after := af, guard := gd } :: rest) a w := by
  obtain ⟨h1, u, hx, hy, h2⟩ := h
  refine wl_val _ h1 (ex_neEn rfl hx hy) ?_
  rw [enEq_self]
  exact h2
theorem wl_nsOp (h : Region.wanted { dst := d, op := .binOp .neq 36 x y t2, type := tt, pos := ps, after := af, guard := gd } (yielded ops a.tmps) = true ∧ ∃ k s0 s1 s2, a.eval x = .agg (opC k s0 s1 s2).toArray ∧ a.eval y = .agg (opC k s0 s1 s2).toArray ∧ wpList Try.prog ops Q rest (a.put d (.bool false)) w) :
    wpList Try.prog ops Q ({ dst := d, op := .binOp .neq 36 x y t2, type := tt, pos := ps, after := af, guard := gd } :: rest) a w := by
  obtain ⟨h1, k, s0, s1, s2, hx, hy, h2⟩ := h
  refine wl_val _ h1 (ex_neOp rfl hx hy) ?_
  rw [opEq_iff.2 ⟨rfl, rfl, rfl, rfl⟩]
  exact h2
theorem wl_nsBa (h : Region.wanted { dst := d, op := .binOp .neq 34 x y t2, type := tt, pos := ps, after := af, guard := gd } (yielded ops a.tmps) = true ∧ ∃ r p, a.eval x = .agg #[.int .i64 r, .int .i64 p] ∧ a.eval y = .agg #[.int .i64 r, .int .i64 p] ∧ wpList Try.prog ops Q rest (a.put d (.bool false)) w) :
    wpList Try.prog ops Q ({ dst := d, op := .binOp .neq 34 x y t2, type := tt, pos := ps, after := af, guard := gd } :: rest) a w := by
  obtain ⟨h1, r, p, hx, hy, h2⟩ := h
  refine wl_val (.bool false) h1 ?_ h2
  simp only [execOp, hx, hy]
  have hm : Try.prog.eqGuardType Try.prog.depth 34 = false := by kernel_rfl
  simp [run_eqGuard_agg w _ _ _ _ _ _ hm, run_neq_struct, eq_ba r p r p 9998 w]
theorem wl_nsRe (h : Region.wanted { dst := d, op := .binOp .neq 41 x y t2, type := tt, pos := ps, after := af, guard := gd } (yielded ops a.tmps) = true ∧ ∃ k b s, a.eval x = .agg #[.int .i64 k, .bool b, .string s] ∧ a.eval y = .agg #[.int .i64 k, .bool b, .string s] ∧ wpList Try.prog ops Q rest (a.put d (.bool false)) w) :
    wpList Try.prog ops Q ({ dst := d, op := .binOp .neq 41 x y t2, type := tt, pos := ps, after := af, guard := gd } :: rest) a w := by
  obtain ⟨h1, k, b, s, hx, hy, h2⟩ := h
  refine wl_val (.bool false) h1 ?_ h2
  simp only [execOp, hx, hy]
  have hm : Try.prog.eqGuardType Try.prog.depth 41 = false := by kernel_rfl
  simp [run_eqGuard_agg w _ _ _ _ _ _ hm, run_neq_struct, eq_re k b s k b s 9998 w]
theorem wl_esEn {u v : En} (e : u = v) (h : Region.wanted { dst := d, op := .binOp .eql 38 x y t2, type := tt, pos := ps, after := af, guard := gd } (yielded ops a.tmps) = true ∧ a.eval x = .agg (enC u).toArray ∧ a.eval y = .agg (enC v).toArray ∧ wpList Try.prog ops Q rest (a.put d (.bool true)) w) :
    wpList Try.prog ops Q ({ dst := d, op := .binOp .eql 38 x y t2, type := tt, pos := ps, after := af, guard := gd } :: rest) a w := by
  subst e
  obtain ⟨h1, hx, hy, h2⟩ := h
  refine wl_val _ h1 (ex_eqEn rfl hx hy) ?_
  rw [enEq_self]
  exact h2
theorem wl_esBa {r p r' p' : Int} (e : r = r') (e' : p = p') (h : Region.wanted { dst := d, op := .binOp .eql 34 x y t2, type := tt, pos := ps, after := af, guard := gd } (yielded ops a.tmps) = true ∧ a.eval x = .agg #[.int .i64 r, .int .i64 p] ∧ a.eval y = .agg #[.int .i64 r', .int .i64 p'] ∧ wpList Try.prog ops Q rest (a.put d (.bool true)) w) :
    wpList Try.prog ops Q ({ dst := d, op := .binOp .eql 34 x y t2, type := tt, pos := ps, after := af, guard := gd } :: rest) a w := by
  subst e e'
  obtain ⟨h1, hx, hy, h2⟩ := h
  refine wl_val (.bool true) h1 ?_ h2
  simp only [execOp, hx, hy]
  have hm : Try.prog.eqGuardType Try.prog.depth 34 = false := by kernel_rfl
  simp [run_eqGuard_agg w _ _ _ _ _ _ hm, run_eql_struct, eq_ba r p r p 9998 w]
end
theorem b_en0 : Try.prog.built 38 [] = some (enC en0).toArray := by kernel_rfl
end Go.Proofs.Ytfkcbnndmheijaa
