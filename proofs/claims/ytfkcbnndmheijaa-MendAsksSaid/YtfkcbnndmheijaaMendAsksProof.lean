/-
  THE LAW 'MendAsks' of the given program: for every input it returns true, and each argument reads behind the call as it read before. No condition.
-/
import Derived.Test.YtfkcbnndmheijaaTr
import Derived.Test.YtfkcbnndmheijaaTrI
import Derived.Test.YtfkcbnndmheijaaMndK
namespace Go.Proofs.Ytfkcbnndmheijaa.mendAsks
open Go.ChangeShapes Go.WideShapes Go.ChangeAt Go.RowKit
open Go.ChangeMaps (open_string shut_string)
set_option linter.unusedVariables false

theorem list_11 {α : Type} {l : List α} (h : l.length = 11) : ∃ a0 a1 a2 a3 a4 a5 a6 a7 a8 a9 a10, l = [a0, a1, a2, a3, a4, a5, a6, a7, a8, a9, a10] := by
  match l, h with
  | [a0, a1, a2, a3, a4, a5, a6, a7, a8, a9, a10], _ => exact ⟨a0, a1, a2, a3, a4, a5, a6, a7, a8, a9, a10, rfl⟩

set_option maxRecDepth 100000 in
theorem lifted (os : Os) (started : os.Started) (H : Type) (enc : TypeId × Value → H) :
    ReturnsInHanded {} Try.checked os 3 .any (Rows.mendAsksSpec.pre6 enc Try.prog Try.f3 Rows.mendAsksRow.domain false) (Rows.mendAsksSpec.post enc Try.prog Try.f3 false true false false) := by
  refine returnsInHanded_of_change (C := Try.checked) own_ started (by kernel_rfl) Try.func3
    (ChangeSpec.witness6 (enc := enc) (C := Try.checked) false ⟨#[], #[.agg #[.int .i64 0, .int .i64 0, .int .i64 0, .bool false, .int .i64 0, .slice none 0 0, .slice none 0 0, .int .i64 0, .int .i64 0, .int .i64 0, .int .i64 0]], []⟩ 8 (by kernel_rfl) (by kernel_rfl) (by kernel_rfl) (by kernel_rfl)) ?_
  intro W base args ds gs before hval0 hW hcnd _
  have hval : ∀ (j : Nat) t v, Try.f3.params[j]? = some t → args[j]? = some v → Value.okWide Try.prog W .any base t v := hval0
  have hW' := hW
  obtain ⟨p, q, hA0, hV, rfl, hfz, hnd⟩ := hW
  have hA : DataW.TrodAll enc Try.prog W 0 (fun _ => true) true Try.f3.params.toList args.toList ds p := hA0
  rw [Try.params3] at hA hval
  obtain ⟨v0, vs0, d0, ds0, p0, q0, hargs, rfl, rfl, h0, r0⟩ := trodAll_cons hA
  obtain ⟨rfl, rfl, rfl⟩ := trodAll_nil r0
  obtain rfl : args = #[v0] := by cases args; simp_all
  obtain ⟨rfl, rfl⟩ := trodVars_none hV
  have k0 := h0
  have lt0 : ∀ x ∈ p0, x.block < W.heap.size := by obtain ⟨m, hm⟩ := k0; exact DataW.trod_lt m _ _ _ hm
  obtain ⟨⟨cs0⟩, rfl, hz0⟩ := okWide_struct Try.underlying24 (hval 0 24 v0 rfl rfl)
  obtain ⟨c0_0, c0_1, c0_2, c0_3, c0_4, c0_5, c0_6, c0_7, c0_8, c0_9, c0_10, rfl⟩ := list_11 (show cs0.length = 11 from hz0.trans (by kernel_rfl))
  have T0 : Tr enc Try.prog W 0 24 [c0_0, c0_1, c0_2, c0_3, c0_4, c0_5, c0_6, c0_7, c0_8, c0_9, c0_10] := Tr.of h0
  have e0_0 : Tr enc Try.prog W 0 3 [c0_0] := (T0.field Try.underlying24 0 rfl 1 (by kernel_rfl))
  have e0_1 : Tr enc Try.prog W 0 3 [c0_1] := (T0.field Try.underlying24 1 rfl 1 (by kernel_rfl))
  have e0_2 : Tr enc Try.prog W 0 3 [c0_2] := (T0.field Try.underlying24 2 rfl 1 (by kernel_rfl))
  have e0_3 : Tr enc Try.prog W 0 4 [c0_3] := (T0.field Try.underlying24 3 rfl 1 (by kernel_rfl))
  have e0_4 : Tr enc Try.prog W 0 3 [c0_4] := (T0.field Try.underlying24 4 rfl 1 (by kernel_rfl))
  have e0_5 : Tr enc Try.prog W 0 22 [c0_5] := (T0.field Try.underlying24 5 rfl 1 (by kernel_rfl))
  have e0_6 : Tr enc Try.prog W 0 22 [c0_6] := (T0.field Try.underlying24 6 rfl 1 (by kernel_rfl))
  have e0_7 : Tr enc Try.prog W 0 3 [c0_7] := (T0.field Try.underlying24 7 rfl 1 (by kernel_rfl))
  have e0_8 : Tr enc Try.prog W 0 3 [c0_8] := (T0.field Try.underlying24 8 rfl 1 (by kernel_rfl))
  have e0_9 : Tr enc Try.prog W 0 3 [c0_9] := (T0.field Try.underlying24 9 rfl 1 (by kernel_rfl))
  have e0_10 : Tr enc Try.prog W 0 3 [c0_10] := (T0.field Try.underlying24 10 rfl 1 (by kernel_rfl))
  obtain ⟨a0_0, rfl, wl0_0, wh0_0⟩ := e0_0.i64 Try.underlying3
  obtain ⟨a0_1, rfl, wl0_1, wh0_1⟩ := e0_1.i64 Try.underlying3
  obtain ⟨a0_2, rfl, wl0_2, wh0_2⟩ := e0_2.i64 Try.underlying3
  obtain ⟨a0_3, rfl⟩ := e0_3.bool Try.underlying4
  obtain ⟨a0_4, rfl, wl0_4, wh0_4⟩ := e0_4.i64 Try.underlying3
  obtain ⟨A0_5, c0_5, l0_5, rfl, hr0_5, hc0_5, hm0_5⟩ := e0_5.ints Try.underlying22 Try.underlying3 (by kernel_rfl)
  obtain ⟨A0_6, c0_6, l0_6, rfl, hr0_6, hc0_6, hm0_6⟩ := e0_6.ints Try.underlying22 Try.underlying3 (by kernel_rfl)
  obtain ⟨a0_7, rfl, wl0_7, wh0_7⟩ := e0_7.i64 Try.underlying3
  obtain ⟨a0_8, rfl, wl0_8, wh0_8⟩ := e0_8.i64 Try.underlying3
  obtain ⟨a0_9, rfl, wl0_9, wh0_9⟩ := e0_9.i64 Try.underlying3
  obtain ⟨a0_10, rfl, wl0_10, wh0_10⟩ := e0_10.i64 Try.underlying3
  clear hA0 hval0
  refine (mendAsks_walk a0_0 a0_1 a0_2 a0_3 a0_4 A0_5 c0_5 l0_5 A0_6 c0_6 l0_6 a0_7 a0_8 a0_9 a0_10 W wl0_0 wh0_0 wl0_1 wh0_1 wl0_2 wh0_2 wl0_4 wh0_4 hr0_5 hc0_5 hm0_5 hr0_6 hc0_6 hm0_6 wl0_7 wh0_7 wl0_8 wh0_8 wl0_9 wh0_9 wl0_10 wh0_10).mono fun e W' ⟨he, bel⟩ => ?_
  subst he
  exact ⟨_, rfl, _, _, _, [], _, [], hW', trodAll_mk1 (shut_bool Try.underlying4 _), (trodAll_cons_mk (Below.trod laidOut_ (by kernel_rfl) (of_decide_eq_true (by kernel_rfl)) k0 bel lt0) trodAll_mk0), rfl, bel.frame _, fun h => by cases h⟩

theorem over : Rows.mendAsksRow.holds Try.pinned (OpenSpec.ofChange Rows.mendAsksSpec) :=
  OpenClaim.holds_of_wide 3 Try.f3 rfl rfl rfl rfl rfl rfl rfl ⟨rfl, rfl, rfl, rfl, rfl⟩ rfl rfl rfl rfl rfl (by kernel_rfl) Try.func3 (by kernel_rfl)
    (of_decide_eq_true (by kernel_rfl)) (by unfold Func.isWrapper; first | (rw [if_pos (by decide +kernel)]; kernel_rfl) | (rw [if_neg (by decide +kernel)]; exact ⟨rfl, rfl⟩))
    (fun os started H enc _ => lifted os started H enc)

/-- THE STATEMENT -/
theorem proved : Rows.MendAsksSaid := over
end Go.Proofs.Ytfkcbnndmheijaa.mendAsks
