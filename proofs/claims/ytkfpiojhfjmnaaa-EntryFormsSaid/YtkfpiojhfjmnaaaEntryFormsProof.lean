/-
  THE LAW 'EntryForms' of the given program: for every input it returns true, and each argument reads behind the call as it read before. No condition.
-/
import Derived.Test.YtkfpiojhfjmnaaaTr
import Derived.Test.YtkfpiojhfjmnaaaEntX
namespace Go.Proofs.Ytkfpiojhfjmnaaa.entryForms
open Go.ChangeShapes Go.WideShapes Go.ChangeAt Go.RowKit
open Go.ChangeMaps (open_string shut_string)
set_option linter.unusedVariables false

theorem list_2 {α : Type} {l : List α} (h : l.length = 2) : ∃ a0 a1, l = [a0, a1] := by
  match l, h with
  | [a0, a1], _ => exact ⟨a0, a1, rfl⟩
theorem list_7 {α : Type} {l : List α} (h : l.length = 7) : ∃ a0 a1 a2 a3 a4 a5 a6, l = [a0, a1, a2, a3, a4, a5, a6] := by
  match l, h with
  | [a0, a1, a2, a3, a4, a5, a6], _ => exact ⟨a0, a1, a2, a3, a4, a5, a6, rfl⟩

set_option maxRecDepth 100000 in
theorem lifted (os : Os) (started : os.Started) (H : Type) (enc : TypeId × Value → H) :
    ReturnsInHanded {} Try.checked os 3 .any (Rows.entryFormsSpec.pre6 enc Try.prog Try.f3 Rows.entryFormsRow.domain false) (Rows.entryFormsSpec.post enc Try.prog Try.f3 false true false false) := by
  refine returnsInHanded_of_change (C := Try.checked) own_ started (by kernel_rfl) Try.func3
    (ChangeSpec.witness6 (enc := enc) (C := Try.checked) false ⟨#[], #[.agg #[.int .i64 0, .int .i64 0], .agg #[.int .u8 0, .int .i64 0, .int .i64 0, .int .u8 0, .string ByteArray.empty, .string ByteArray.empty, .string ByteArray.empty]], []⟩ 8 (by kernel_rfl) (by kernel_rfl) (by kernel_rfl) (by kernel_rfl)) ?_
  intro W base args ds gs before hval0 hW hcnd _
  have hval : ∀ (j : Nat) t v, Try.f3.params[j]? = some t → args[j]? = some v → Value.okWide Try.prog W .any base t v := hval0
  have hW' := hW
  obtain ⟨p, q, hA0, hV, rfl, hfz, hnd⟩ := hW
  have hA : DataW.TrodAll enc Try.prog W 0 (fun _ => true) true Try.f3.params.toList args.toList ds p := hA0
  rw [Try.params3] at hA hval
  obtain ⟨v0, vs0, d0, ds0, p0, q0, hargs, rfl, rfl, h0, r0⟩ := trodAll_cons hA
  obtain ⟨v1, vs1, d1, ds1, p1, q1, rfl, rfl, rfl, h1, r1⟩ := trodAll_cons r0
  obtain ⟨rfl, rfl, rfl⟩ := trodAll_nil r1
  obtain rfl : args = #[v0, v1] := by cases args; simp_all
  obtain ⟨rfl, rfl⟩ := trodVars_none hV
  have k0 := h0
  have lt0 : ∀ x ∈ p0, x.block < W.heap.size := by obtain ⟨m, hm⟩ := k0; exact DataW.trod_lt m _ _ _ hm
  obtain ⟨⟨cs0⟩, rfl, hz0⟩ := okWide_struct Try.underlying23 (hval 0 23 v0 rfl rfl)
  obtain ⟨c0_0, c0_1, rfl⟩ := list_2 (show cs0.length = 2 from hz0.trans (by kernel_rfl))
  have T0 : Tr enc Try.prog W 0 23 [c0_0, c0_1] := Tr.of h0
  have e0_0 : Tr enc Try.prog W 0 3 [c0_0] := (T0.field Try.underlying23 0 rfl 1 (by kernel_rfl))
  have e0_1 : Tr enc Try.prog W 0 3 [c0_1] := (T0.field Try.underlying23 1 rfl 1 (by kernel_rfl))
  obtain ⟨a0_0, rfl, wl0_0, wh0_0⟩ := e0_0.i64 Try.underlying3
  obtain ⟨a0_1, rfl, wl0_1, wh0_1⟩ := e0_1.i64 Try.underlying3
  have k1 := h1
  have lt1 : ∀ x ∈ p1, x.block < W.heap.size := by obtain ⟨m, hm⟩ := k1; exact DataW.trod_lt m _ _ _ hm
  obtain ⟨⟨cs1⟩, rfl, hz1⟩ := okWide_struct Try.underlying27 (hval 1 27 v1 rfl rfl)
  obtain ⟨c1_0, c1_1, c1_2, c1_3, c1_4, c1_5, c1_6, rfl⟩ := list_7 (show cs1.length = 7 from hz1.trans (by kernel_rfl))
  have T1 : Tr enc Try.prog W 0 27 [c1_0, c1_1, c1_2, c1_3, c1_4, c1_5, c1_6] := Tr.of h1
  have e1_0 : Tr enc Try.prog W 0 5 [c1_0] := (T1.field Try.underlying27 0 rfl 1 (by kernel_rfl))
  have e1_1 : Tr enc Try.prog W 0 3 [c1_1] := (T1.field Try.underlying27 1 rfl 1 (by kernel_rfl))
  have e1_2 : Tr enc Try.prog W 0 3 [c1_2] := (T1.field Try.underlying27 2 rfl 1 (by kernel_rfl))
  have e1_3 : Tr enc Try.prog W 0 5 [c1_3] := ((T1.field Try.underlying27 3 rfl 4 (by kernel_rfl)).field Try.underlying25 0 rfl 1 (by kernel_rfl))
  have e1_4 : Tr enc Try.prog W 0 9 [c1_4] := ((T1.field Try.underlying27 3 rfl 4 (by kernel_rfl)).field Try.underlying25 1 rfl 1 (by kernel_rfl))
  have e1_5 : Tr enc Try.prog W 0 9 [c1_5] := ((T1.field Try.underlying27 3 rfl 4 (by kernel_rfl)).field Try.underlying25 2 rfl 1 (by kernel_rfl))
  have e1_6 : Tr enc Try.prog W 0 9 [c1_6] := ((T1.field Try.underlying27 3 rfl 4 (by kernel_rfl)).field Try.underlying25 3 rfl 1 (by kernel_rfl))
  obtain ⟨a1_0, rfl, w1_0⟩ := e1_0.uint rfl Try.underlying5
  obtain ⟨a1_1, rfl, wl1_1, wh1_1⟩ := e1_1.i64 Try.underlying3
  obtain ⟨a1_2, rfl, wl1_2, wh1_2⟩ := e1_2.i64 Try.underlying3
  obtain ⟨a1_3, rfl, w1_3⟩ := e1_3.uint rfl Try.underlying5
  obtain ⟨a1_4, rfl, w1_4⟩ := e1_4.str Try.underlying9
  obtain ⟨a1_5, rfl, w1_5⟩ := e1_5.str Try.underlying9
  obtain ⟨a1_6, rfl, w1_6⟩ := e1_6.str Try.underlying9
  clear hA0 hval0
  refine (entryForms_walk a0_0 a0_1 a1_0 a1_1 a1_2 a1_3 a1_4 a1_5 a1_6 W wl0_0 wh0_0 wl0_1 wh0_1 w1_0 wl1_1 wh1_1 wl1_2 wh1_2 w1_3 w1_4 w1_5 w1_6).mono fun e W' ⟨he, bel⟩ => ?_
  subst he
  exact ⟨_, rfl, _, _, _, [], _, [], hW', trodAll_mk1 (shut_bool Try.underlying4 _), (trodAll_cons_mk (Below.trod laidOut_ (by kernel_rfl) (of_decide_eq_true (by kernel_rfl)) k0 bel lt0) (trodAll_cons_mk (Below.trod laidOut_ (by kernel_rfl) (of_decide_eq_true (by kernel_rfl)) k1 bel lt1) trodAll_mk0)), rfl, bel.frame _, fun h => by cases h⟩

theorem over : Rows.entryFormsRow.holds Try.pinned (OpenSpec.ofChange Rows.entryFormsSpec) :=
  OpenClaim.holds_of_wide 3 Try.f3 rfl rfl rfl rfl rfl rfl rfl ⟨rfl, rfl, rfl, rfl, rfl⟩ rfl rfl rfl rfl rfl (by kernel_rfl) Try.func3 (by kernel_rfl)
    (of_decide_eq_true (by kernel_rfl)) (by unfold Func.isWrapper; first | (rw [if_pos (by decide +kernel)]; kernel_rfl) | (rw [if_neg (by decide +kernel)]; exact ⟨rfl, rfl⟩))
    (fun os started H enc _ => lifted os started H enc)

/-- THE STATEMENT -/
theorem proved : Rows.EntryFormsSaid := over
end Go.Proofs.Ytkfpiojhfjmnaaa.entryForms
