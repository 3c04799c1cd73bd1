/-
  THE LAW 'FrameSeals' of the given program: for every input it returns true, and each argument reads behind the call as it read before. No condition.
-/
import Derived.Test.YtahfippapknolaaTr
import Derived.Test.YtahfippapknolaaFrameLawsA
namespace Go.Proofs.Ytahfippapknolaa.frameSeals
open Go.ChangeShapes Go.WideShapes Go.ChangeAt Go.RowKit
open Go.ChangeMaps (open_string shut_string)
set_option linter.unusedVariables false

theorem list_5 {α : Type} {l : List α} (h : l.length = 5) : ∃ a0 a1 a2 a3 a4, l = [a0, a1, a2, a3, a4] := by
  match l, h with
  | [a0, a1, a2, a3, a4], _ => exact ⟨a0, a1, a2, a3, a4, rfl⟩

set_option maxRecDepth 100000 in
theorem lifted (os : Os) (started : os.Started) (H : Type) (enc : TypeId × Value → H) :
    ReturnsInHanded {} Try.checked os 3 .any (Rows.frameSealsSpec.pre6 enc Try.prog Try.f3 Rows.frameSealsRow.domain false) (Rows.frameSealsSpec.post enc Try.prog Try.f3 false true false false) := by
  refine returnsInHanded_of_change (C := Try.checked) own_ started (by kernel_rfl) Try.func3
    (ChangeSpec.witness6 (enc := enc) (C := Try.checked) false ⟨#[], #[.agg #[.int .i64 0, .int .i64 0, .int .i64 0, .int .i64 0, .int .i64 0], .slice none 0 0, .int .i64 0], []⟩ 8 (by kernel_rfl) (by kernel_rfl) (by kernel_rfl) (by kernel_rfl)) ?_
  intro W base args ds gs before hval0 hW hcnd _
  have hval : ∀ (j : Nat) t v, Try.f3.params[j]? = some t → args[j]? = some v → Value.okWide Try.prog W .any base t v := hval0
  have hW' := hW
  obtain ⟨p, q, hA0, hV, rfl, hfz, hnd⟩ := hW
  have hA : DataW.TrodAll enc Try.prog W 0 (fun _ => true) true Try.f3.params.toList args.toList ds p := hA0
  rw [Try.params3] at hA hval
  obtain ⟨v0, vs0, d0, ds0, p0, q0, hargs, rfl, rfl, h0, r0⟩ := trodAll_cons hA
  obtain ⟨v1, vs1, d1, ds1, p1, q1, rfl, rfl, rfl, h1, r1⟩ := trodAll_cons r0
  obtain ⟨v2, vs2, d2, ds2, p2, q2, rfl, rfl, rfl, h2, r2⟩ := trodAll_cons r1
  obtain ⟨rfl, rfl, rfl⟩ := trodAll_nil r2
  obtain rfl : args = #[v0, v1, v2] := by cases args; simp_all
  obtain ⟨rfl, rfl⟩ := trodVars_none hV
  have k0 := h0
  have lt0 : ∀ x ∈ p0, x.block < W.heap.size := by obtain ⟨m, hm⟩ := k0; exact DataW.trod_lt m _ _ _ hm
  obtain ⟨⟨cs0⟩, rfl, hz0⟩ := okWide_struct Try.underlying23 (hval 0 23 v0 rfl rfl)
  obtain ⟨c0_0, c0_1, c0_2, c0_3, c0_4, rfl⟩ := list_5 (show cs0.length = 5 from hz0.trans (by kernel_rfl))
  have T0 : Tr enc Try.prog W 0 23 [c0_0, c0_1, c0_2, c0_3, c0_4] := Tr.of h0
  have e0_0 : Tr enc Try.prog W 0 3 [c0_0] := (T0.field Try.underlying23 0 rfl 1 (by kernel_rfl))
  have e0_1 : Tr enc Try.prog W 0 3 [c0_1] := (T0.field Try.underlying23 1 rfl 1 (by kernel_rfl))
  have e0_2 : Tr enc Try.prog W 0 3 [c0_2] := (T0.field Try.underlying23 2 rfl 1 (by kernel_rfl))
  have e0_3 : Tr enc Try.prog W 0 3 [c0_3] := (T0.field Try.underlying23 3 rfl 1 (by kernel_rfl))
  have e0_4 : Tr enc Try.prog W 0 3 [c0_4] := (T0.field Try.underlying23 4 rfl 1 (by kernel_rfl))
  obtain ⟨a0_0, rfl, wl0_0, wh0_0⟩ := e0_0.i64 Try.underlying3
  obtain ⟨a0_1, rfl, wl0_1, wh0_1⟩ := e0_1.i64 Try.underlying3
  obtain ⟨a0_2, rfl, wl0_2, wh0_2⟩ := e0_2.i64 Try.underlying3
  obtain ⟨a0_3, rfl, wl0_3, wh0_3⟩ := e0_3.i64 Try.underlying3
  obtain ⟨a0_4, rfl, wl0_4, wh0_4⟩ := e0_4.i64 Try.underlying3
  have k1 := h1
  have lt1 : ∀ x ∈ p1, x.block < W.heap.size := by obtain ⟨m, hm⟩ := k1; exact DataW.trod_lt m _ _ _ hm
  obtain ⟨A1, n1, c1, rfl⟩ := okWide_slice Try.underlying24 (hval 1 24 v1 rfl rfl)
  have T1 : Tr enc Try.prog W 0 24 [.slice A1 n1 c1] := Tr.of h1
  obtain ⟨B1, d1_, l1, he1, hr1, hc1, hm1⟩ := T1.bytes Try.underlying24 Try.underlying5 (by kernel_rfl)
  injection he1 with i1a i1b i1c
  subst i1a i1b i1c
  have k2 := h2
  have lt2 : ∀ x ∈ p2, x.block < W.heap.size := by obtain ⟨m, hm⟩ := k2; exact DataW.trod_lt m _ _ _ hm
  obtain ⟨a2, rfl, w2l, w2h⟩ := open_int_i64 Try.underlying3 (hval 2 3 v2 rfl rfl) h2
  clear hA0 hval0
  refine (frameSeals_walk a0_0 a0_1 a0_2 a0_3 a0_4 A1 c1 l1 a2 W wl0_0 wh0_0 wl0_1 wh0_1 wl0_2 wh0_2 wl0_3 wh0_3 wl0_4 wh0_4 hr1 hc1 hm1 w2l w2h).mono fun e W' ⟨he, bel⟩ => ?_
  subst he
  exact ⟨_, rfl, _, _, _, [], _, [], hW', trodAll_mk1 (shut_bool Try.underlying4 _), (trodAll_cons_mk (Below.trod laidOut_ (by kernel_rfl) (of_decide_eq_true (by kernel_rfl)) k0 bel lt0) (trodAll_cons_mk (Below.trod laidOut_ (by kernel_rfl) (of_decide_eq_true (by kernel_rfl)) k1 bel lt1) (trodAll_cons_mk (Below.trod laidOut_ (by kernel_rfl) (of_decide_eq_true (by kernel_rfl)) k2 bel lt2) trodAll_mk0))), rfl, bel.frame _, fun h => by cases h⟩

theorem over : Rows.frameSealsRow.holds Try.pinned (OpenSpec.ofChange Rows.frameSealsSpec) :=
  OpenClaim.holds_of_wide 3 Try.f3 rfl rfl rfl rfl rfl rfl rfl ⟨rfl, rfl, rfl, rfl, rfl⟩ rfl rfl rfl rfl rfl (by kernel_rfl) Try.func3 (by kernel_rfl)
    (of_decide_eq_true (by kernel_rfl)) (by unfold Func.isWrapper; first | (rw [if_pos (by decide +kernel)]; kernel_rfl) | (rw [if_neg (by decide +kernel)]; exact ⟨rfl, rfl⟩))
    (fun os started H enc _ => lifted os started H enc)

/-- THE STATEMENT -/
theorem proved : Rows.FrameSealsSaid := over
end Go.Proofs.Ytahfippapknolaa.frameSeals
