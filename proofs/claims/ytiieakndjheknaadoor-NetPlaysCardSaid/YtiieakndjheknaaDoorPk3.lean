import Derived.Test.YtiieakndjheknaaDoorPk2
import Derived.IntWalk
import Derived.Test.YtiieakndjheknaaDoorPk1
/-
  THE WALKS OF entry's MayOp, May, ballot.
-/
namespace Go.Proofs.YtiieakndjheknaaDoor
set_option maxRecDepth 100000
open Go.RowKit
set_option linter.unusedVariables false
set_option linter.unusedSimpArgs false

set_option maxHeartbeats 2000000 in
theorem mayOp_any (k : Int) (s0 s1 s2 : ByteArray) (w : World) (h0 : s0.size ≤ maxLen) (h1 : s1.size ≤ maxLen) (h2 : s2.size ≤ maxLen) : Calls Tryd.prog 69 #[.agg (opC k s0 s1 s2).toArray] w (RetV w (.bool (mayOpB k s0 s1 s2))) := by
  have H := Hp.nil w
  unfold maxLen at h0 h1 h2
  have hk : k = 1 ∨ k = 2 ∨ k = 3 ∨ k = 4 ∨ ((k == 1) = false ∧ (k == 2) = false ∧ (k == 3) = false ∧ (k == 4) = false) := by simp only [beq_eq_false_iff_ne]; omega
  rcases hk with rfl | rfl | rfl | rfl | ⟨k1, k2, k3, k4⟩
  all_goals
    go_enter Tryd.func69, Tryd.ntmps69
    go_wp2_with (first | ((with_reducible refine Hp.box H ?_); (first | refine ⟨rfl, [.pointer _], rfl, ?_⟩ | refine ⟨rfl, [.int _ _], rfl, ?_⟩ | refine ⟨rfl, [.slice _ _ _], rfl, ?_⟩ | refine ⟨rfl, [.bool _], rfl, ?_⟩ | refine ⟨rfl, [.string _], rfl, ?_⟩ | refine ⟨rfl, _, rfl, ?_⟩); (clear H; intro g1 w1 H); go_frame) | ((with_reducible refine Hp.ld H ?_); refine ⟨rfl, ?_⟩; refine ⟨c_look rfl, ?_⟩; refine ⟨_, _, rfl, ?_⟩; ((repeat ((fail_if_success refine ⟨_, _, _, .z, ?_⟩); refine hs ?_)); refine ⟨_, _, _, .z, ?_⟩); refine ⟨_, rfl, ?_⟩; go_frame) | (fail))
    all_goals (go_ret; refine ⟨ret_bool ?_, H.below⟩; simp only [mayOpB, mtB, *]; first | (simp [*]; done) | (simp [*]; intros; omega) | (have z1 := emp_size s1 ‹_›; simp [*]; done) | (have z2 := emp_size s2 ‹_›; simp [*]; done) | (have z1 := emp_size s1 ‹_›; exfalso; omega) | (have z2 := emp_size s2 ‹_›; simp [*]; omega) | (have z1 := emp_size s1 ‹_›; simp [*]; omega))
theorem b_noop : Tryd.prog.built 27 [(0, .int .u8 1)] = some (enC noop).toArray := by kernel_rfl
theorem mayOp_b (k : Int) (s0 s1 s2 : ByteArray) (w : World) (b : Bool) (ho : mayOpB k s0 s1 s2 = b) (h0 : s0.size ≤ maxLen) (h1 : s1.size ≤ maxLen) (h2 : s2.size ≤ maxLen) : Calls Tryd.prog 69 #[.agg (opC k s0 s1 s2).toArray] w (RetV w (.bool b)) := by
  subst ho
  exact mayOp_any k s0 s1 s2 w h0 h1 h2
/-- the texts of an entry are of a length that there is -/
def Sm (e : En) : Prop := e.s0.size ≤ maxLen ∧ e.s1.size ≤ maxLen ∧ e.s2.size ≤ maxLen
set_option maxHeartbeats 2000000 in
theorem may_any (e : En) (w : World) (hs : Sm e) : Calls Tryd.prog 63 #[.agg (enC e).toArray] w (RetV w (.bool (mayB e))) := by
  have H := Hp.nil w
  obtain ⟨h0, h1, h2⟩ := hs
  cases hk : (e.k == 1)
  · have hn : isNoop e = false := by rw [isNoop, hk]; rfl
    cases ho : mayOpB e.ok e.s0 e.s1 e.s2
    all_goals
      go_enter Tryd.func63, Tryd.ntmps63
      go_wp2_with (first | ((with_reducible refine Hp.box H ?_); (first | refine ⟨rfl, [.pointer _], rfl, ?_⟩ | refine ⟨rfl, [.int _ _], rfl, ?_⟩ | refine ⟨rfl, [.slice _ _ _], rfl, ?_⟩ | refine ⟨rfl, [.bool _], rfl, ?_⟩ | refine ⟨rfl, [.string _], rfl, ?_⟩ | refine ⟨rfl, _, rfl, ?_⟩); (clear H; intro g1 w1 H); go_frame) | ((with_reducible refine Hp.ld H ?_); refine ⟨rfl, ?_⟩; refine ⟨c_look rfl, ?_⟩; refine ⟨_, _, rfl, ?_⟩; ((repeat ((fail_if_success refine ⟨_, _, _, .z, ?_⟩); refine hs ?_)); refine ⟨_, _, _, .z, ?_⟩); refine ⟨_, rfl, ?_⟩; go_frame) | ((with_reducible refine Hp.lda H ?_); refine ⟨rfl, by kernel_rfl, ?_⟩; refine ⟨_, s_look rfl, ?_⟩; refine ⟨_, rfl, ?_⟩; ((repeat ((fail_if_success refine ⟨_, _, _, .z, ?_⟩); refine hs ?_)); refine ⟨_, _, _, .z, ?_⟩); refine ⟨rfl, ?_⟩; go_frame) | ((with_reducible refine Hp.lds H ?_); refine ⟨rfl, by kernel_rfl, ?_⟩; refine ⟨_, s_look rfl, ?_⟩; refine ⟨_, _, rfl, ?_⟩; ((repeat ((fail_if_success refine ⟨_, _, _, .z, ?_⟩); refine hs ?_)); refine ⟨_, _, _, .z, ?_⟩); refine ⟨opC e.ok e.s0 e.s1 e.s2, rfl, rfl, ?_⟩; go_frame) | ((with_reducible refine Hp.bdl (t := 27) (parts := [_]) H ?_); refine ⟨rfl, _, b_noop, ?_⟩; go_frame) | ((with_reducible refine wl_eqEn ?_); refine ⟨rfl, _, _, rfl, rfl, ?_⟩; go_frame) | ((with_reducible refine (mayOp_b _ _ _ _ _ _ ho h0 h1 h2).mono ?_); rintro _ w1 ⟨rfl, hb⟩; replace H := H.call hb; clear hb))
      all_goals (go_ret; refine ⟨ret_bool ?_, H.below⟩; rw [mayB, hn]; simp [*] <;> (first | rfl | (intros; omega)))
  · have hm : mayB e = isNoop e := by
      have : (e.k == 2) = false := by rw [beq_iff_eq] at hk; rw [hk]; rfl
      rw [mayB, this, Bool.false_and, Bool.or_false]
    go_enter Tryd.func63, Tryd.ntmps63
    go_wp2_with (first | ((with_reducible refine Hp.box H ?_); (first | refine ⟨rfl, [.pointer _], rfl, ?_⟩ | refine ⟨rfl, [.int _ _], rfl, ?_⟩ | refine ⟨rfl, [.slice _ _ _], rfl, ?_⟩ | refine ⟨rfl, [.bool _], rfl, ?_⟩ | refine ⟨rfl, [.string _], rfl, ?_⟩ | refine ⟨rfl, _, rfl, ?_⟩); (clear H; intro g1 w1 H); go_frame) | ((with_reducible refine Hp.ld H ?_); refine ⟨rfl, ?_⟩; refine ⟨c_look rfl, ?_⟩; refine ⟨_, _, rfl, ?_⟩; ((repeat ((fail_if_success refine ⟨_, _, _, .z, ?_⟩); refine hs ?_)); refine ⟨_, _, _, .z, ?_⟩); refine ⟨_, rfl, ?_⟩; go_frame) | ((with_reducible refine Hp.lda H ?_); refine ⟨rfl, by kernel_rfl, ?_⟩; refine ⟨_, s_look rfl, ?_⟩; refine ⟨_, rfl, ?_⟩; ((repeat ((fail_if_success refine ⟨_, _, _, .z, ?_⟩); refine hs ?_)); refine ⟨_, _, _, .z, ?_⟩); refine ⟨rfl, ?_⟩; go_frame) | ((with_reducible refine Hp.lds H ?_); refine ⟨rfl, by kernel_rfl, ?_⟩; refine ⟨_, s_look rfl, ?_⟩; refine ⟨_, _, rfl, ?_⟩; ((repeat ((fail_if_success refine ⟨_, _, _, .z, ?_⟩); refine hs ?_)); refine ⟨_, _, _, .z, ?_⟩); refine ⟨opC e.ok e.s0 e.s1 e.s2, rfl, rfl, ?_⟩; go_frame) | ((with_reducible refine Hp.bdl (t := 27) (parts := [_]) H ?_); refine ⟨rfl, _, b_noop, ?_⟩; go_frame) | ((with_reducible refine wl_eqEn ?_); refine ⟨rfl, _, _, rfl, rfl, ?_⟩; go_frame) | ((with_reducible refine (mayOp_b _ _ _ _ _ _ ho h0 h1 h2).mono ?_); rintro _ w1 ⟨rfl, hb⟩; replace H := H.call hb; clear hb))
    go_ret
    exact ⟨ret_bool (by rw [hm, enEq_noop]), H.below⟩
end Go.Proofs.YtiieakndjheknaaDoor

/-
  THE WALKS OF entry's pen: put, write, get, read.
-/
namespace Go.Proofs.YtiieakndjheknaaDoor
set_option maxRecDepth 100000
open Go.RowKit
set_option linter.unusedVariables false
set_option linter.unusedSimpArgs false

end Go.Proofs.YtiieakndjheknaaDoor

/-
  THE WALKS OF entry's texts, entry, Bytes.
-/
namespace Go.Proofs.YtiieakndjheknaaDoor
set_option maxRecDepth 100000
open Go.RowKit
set_option linter.unusedVariables false
set_option linter.unusedSimpArgs false
/-- the kinds are bytes -/
def U8 (e : En) : Prop := 0 ≤ e.k ∧ e.k < 256 ∧ 0 ≤ e.ok ∧ e.ok < 256
end Go.Proofs.YtiieakndjheknaaDoor

/-
  ARGUMENTS OPENED: entries, slices of entries.
-/
namespace Go.Proofs.YtiieakndjheknaaDoor
set_option maxRecDepth 100000
open Go.ChangeShapes Go.WideShapes Go.ChangeAt Go.RowKit
set_option linter.unusedVariables false

theorem list7 {α : Type} {l : List α} (h : l.length = 7) : ∃ a b c d e f g, l = [a, b, c, d, e, f, g] := by
  match l, h with
  | [a, b, c, d, e, f, g], _ => exact ⟨a, b, c, d, e, f, g, rfl⟩
section
variable {H : Type} {enc : TypeId × Value → H} {w : World} {base : Nat}
theorem Tr.entry {cs : List Value} (h : Tr enc Tryd.prog w base 27 cs) (hl : cs.length = 7) : ∃ e : En, cs = enC e ∧ Sm e ∧ U8 e := by
  obtain ⟨a, b, c, d, e, f, g, rfl⟩ := list7 hl
  have h0 : Tr enc Tryd.prog w base 5 [a] := h.field Tryd.underlying27 0 rfl 1 (by kernel_rfl)
  have h1 : Tr enc Tryd.prog w base 3 [b] := h.field Tryd.underlying27 1 rfl 1 (by kernel_rfl)
  have h2 : Tr enc Tryd.prog w base 3 [c] := h.field Tryd.underlying27 2 rfl 1 (by kernel_rfl)
  have h3 : Tr enc Tryd.prog w base 25 [d, e, f, g] := h.field Tryd.underlying27 3 rfl 4 (by kernel_rfl)
  have h4 : Tr enc Tryd.prog w base 5 [d] := h3.field Tryd.underlying25 0 rfl 1 (by kernel_rfl)
  have h5 : Tr enc Tryd.prog w base 9 [e] := h3.field Tryd.underlying25 1 rfl 1 (by kernel_rfl)
  have h6 : Tr enc Tryd.prog w base 9 [f] := h3.field Tryd.underlying25 2 rfl 1 (by kernel_rfl)
  have h7 : Tr enc Tryd.prog w base 9 [g] := h3.field Tryd.underlying25 3 rfl 1 (by kernel_rfl)
  obtain ⟨k, rfl, hk⟩ := h0.uint rfl Tryd.underlying5
  obtain ⟨c0, rfl, _, _⟩ := h1.i64 Tryd.underlying3
  obtain ⟨s, rfl, _, _⟩ := h2.i64 Tryd.underlying3
  obtain ⟨ok, rfl, hok⟩ := h4.uint rfl Tryd.underlying5
  obtain ⟨s0, rfl, z0⟩ := h5.str Tryd.underlying9
  obtain ⟨s1, rfl, z1⟩ := h6.str Tryd.underlying9
  obtain ⟨s2, rfl, z2⟩ := h7.str Tryd.underlying9
  simp only [IntKind.bits] at hk hok
  exact ⟨⟨k, c0, s, ok, s0, s1, s2⟩, rfl, ⟨z0, z1, z2⟩, ⟨by show (0 : Int) ≤ k; omega, by show (k : Int) < 256; omega, by show (0 : Int) ≤ ok; omega, by show (ok : Int) < 256; omega⟩⟩
end
end Go.Proofs.YtiieakndjheknaaDoor
