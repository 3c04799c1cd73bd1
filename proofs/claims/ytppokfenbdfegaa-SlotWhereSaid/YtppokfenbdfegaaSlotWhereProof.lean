/-
  THE LAW 'SlotWhere' of the given program: for every input it returns true, and each argument reads behind the call as it read before. No condition.
-/
import Derived.Test.YtppokfenbdfegaaTr
import Derived.Test.YtppokfenbdfegaaSlotL
namespace Go.Proofs.Ytppokfenbdfegaa.slotWhere
open Go.ChangeShapes Go.WideShapes Go.ChangeAt Go.RowKit
open Go.ChangeMaps (open_string shut_string)
set_option linter.unusedVariables false

theorem list_5 {α : Type} {l : List α} (h : l.length = 5) : ∃ a0 a1 a2 a3 a4, l = [a0, a1, a2, a3, a4] := by
  match l, h with
  | [a0, a1, a2, a3, a4], _ => exact ⟨a0, a1, a2, a3, a4, rfl⟩
theorem list_22 {α : Type} {l : List α} (h : l.length = 22) : ∃ a0 a1 a2 a3 a4 a5 a6 a7 a8 a9 a10 a11 a12 a13 a14 a15 a16 a17 a18 a19 a20 a21, l = [a0, a1, a2, a3, a4, a5, a6, a7, a8, a9, a10, a11, a12, a13, a14, a15, a16, a17, a18, a19, a20, a21] := by
  match l, h with
  | [a0, a1, a2, a3, a4, a5, a6, a7, a8, a9, a10, a11, a12, a13, a14, a15, a16, a17, a18, a19, a20, a21], _ => exact ⟨a0, a1, a2, a3, a4, a5, a6, a7, a8, a9, a10, a11, a12, a13, a14, a15, a16, a17, a18, a19, a20, a21, rfl⟩
theorem okWide_array {P : Program} {w : World} {r : Reach} {base : Nat} {n : Nat} {e t : TypeId} {v : Value} (ht : P.underlying t = some (.array n e)) (h : Value.okWide P w r base t v) : ∃ cs, v = .agg cs ∧ cs.size = P.cellsOf t := by
  simp only [Value.okWide, ht] at h
  obtain ⟨cs, h1, h2, _⟩ := h
  exact ⟨cs, h1, h2⟩

set_option maxRecDepth 100000 in
theorem lifted (os : Os) (started : os.Started) (H : Type) (enc : TypeId × Value → H) :
    ReturnsInHanded {} Try.checked os 5 .any (Rows.slotWhereSpec.pre6 enc Try.prog Try.f5 Rows.slotWhereRow.domain false) (Rows.slotWhereSpec.post enc Try.prog Try.f5 false true false false) := by
  refine returnsInHanded_of_change (C := Try.checked) own_ started (by kernel_rfl) Try.func5
    (ChangeSpec.witness6 (enc := enc) (C := Try.checked) false ⟨#[], #[.agg #[.int .u8 0, .int .i64 0, .int .i64 0, .int .i64 0, .int .i64 0], .agg #[.int .u8 0, .int .i64 0, .int .i64 0, .int .i64 0, .int .u8 0, .int .i64 0, .int .i64 0, .int .u8 0, .string ByteArray.empty, .string ByteArray.empty, .string ByteArray.empty, .int .u8 0, .int .i64 0, .int .i64 0, .int .i64 0, .int .u8 0, .int .i64 0, .int .i64 0, .int .u8 0, .string ByteArray.empty, .string ByteArray.empty, .string ByteArray.empty], .int .i64 0], []⟩ 8 (by kernel_rfl) (by kernel_rfl) (by kernel_rfl) (by kernel_rfl)) ?_
  intro W base args ds gs before hval0 hW hcnd _
  have hval : ∀ (j : Nat) t v, Try.f5.params[j]? = some t → args[j]? = some v → Value.okWide Try.prog W .any base t v := hval0
  have hW' := hW
  obtain ⟨p, q, hA0, hV, rfl, hfz, hnd⟩ := hW
  have hA : DataW.TrodAll enc Try.prog W 0 (fun _ => true) true Try.f5.params.toList args.toList ds p := hA0
  rw [Try.params5] at hA hval
  obtain ⟨v0, vs0, d0, ds0, p0, q0, hargs, rfl, rfl, h0, r0⟩ := trodAll_cons hA
  obtain ⟨v1, vs1, d1, ds1, p1, q1, rfl, rfl, rfl, h1, r1⟩ := trodAll_cons r0
  obtain ⟨v2, vs2, d2, ds2, p2, q2, rfl, rfl, rfl, h2, r2⟩ := trodAll_cons r1
  obtain ⟨rfl, rfl, rfl⟩ := trodAll_nil r2
  obtain rfl : args = #[v0, v1, v2] := by cases args; simp_all
  obtain ⟨rfl, rfl⟩ := trodVars_none hV
  have k0 := h0
  have lt0 : ∀ x ∈ p0, x.block < W.heap.size := by obtain ⟨m, hm⟩ := k0; exact DataW.trod_lt m _ _ _ hm
  obtain ⟨⟨cs0⟩, rfl, hz0⟩ := okWide_struct Try.underlying39 (hval 0 39 v0 rfl rfl)
  obtain ⟨c0_0, c0_1, c0_2, c0_3, c0_4, rfl⟩ := list_5 (show cs0.length = 5 from hz0.trans (by kernel_rfl))
  have T0 : Tr enc Try.prog W 0 39 [c0_0, c0_1, c0_2, c0_3, c0_4] := Tr.of h0
  have e0_0 : Tr enc Try.prog W 0 5 [c0_0] := (T0.field Try.underlying39 0 rfl 1 (by kernel_rfl))
  have e0_1 : Tr enc Try.prog W 0 3 [c0_1] := (T0.field Try.underlying39 1 rfl 1 (by kernel_rfl))
  have e0_2 : Tr enc Try.prog W 0 3 [c0_2] := ((T0.field Try.underlying39 2 rfl 2 (by kernel_rfl)).field Try.underlying23 0 rfl 1 (by kernel_rfl))
  have e0_3 : Tr enc Try.prog W 0 3 [c0_3] := ((T0.field Try.underlying39 2 rfl 2 (by kernel_rfl)).field Try.underlying23 1 rfl 1 (by kernel_rfl))
  have e0_4 : Tr enc Try.prog W 0 3 [c0_4] := (T0.field Try.underlying39 3 rfl 1 (by kernel_rfl))
  obtain ⟨a0_0, rfl, w0_0⟩ := e0_0.uint rfl Try.underlying5
  obtain ⟨a0_1, rfl, wl0_1, wh0_1⟩ := e0_1.i64 Try.underlying3
  obtain ⟨a0_2, rfl, wl0_2, wh0_2⟩ := e0_2.i64 Try.underlying3
  obtain ⟨a0_3, rfl, wl0_3, wh0_3⟩ := e0_3.i64 Try.underlying3
  obtain ⟨a0_4, rfl, wl0_4, wh0_4⟩ := e0_4.i64 Try.underlying3
  have k1 := h1
  have lt1 : ∀ x ∈ p1, x.block < W.heap.size := by obtain ⟨m, hm⟩ := k1; exact DataW.trod_lt m _ _ _ hm
  obtain ⟨⟨cs1⟩, rfl, hz1⟩ := okWide_array Try.underlying46 (hval 1 46 v1 rfl rfl)
  obtain ⟨c1_0, c1_1, c1_2, c1_3, c1_4, c1_5, c1_6, c1_7, c1_8, c1_9, c1_10, c1_11, c1_12, c1_13, c1_14, c1_15, c1_16, c1_17, c1_18, c1_19, c1_20, c1_21, rfl⟩ := list_22 (show cs1.length = 22 from hz1.trans (by kernel_rfl))
  have T1 : Tr enc Try.prog W 0 46 [c1_0, c1_1, c1_2, c1_3, c1_4, c1_5, c1_6, c1_7, c1_8, c1_9, c1_10, c1_11, c1_12, c1_13, c1_14, c1_15, c1_16, c1_17, c1_18, c1_19, c1_20, c1_21] := Tr.of h1
  have e1_0 : Tr enc Try.prog W 0 5 [c1_0] := ((T1.elem Try.underlying46 0 (by decide) 11 (by kernel_rfl)).field Try.underlying45 0 rfl 1 (by kernel_rfl))
  have e1_1 : Tr enc Try.prog W 0 3 [c1_1] := ((T1.elem Try.underlying46 0 (by decide) 11 (by kernel_rfl)).field Try.underlying45 1 rfl 1 (by kernel_rfl))
  have e1_2 : Tr enc Try.prog W 0 3 [c1_2] := (((T1.elem Try.underlying46 0 (by decide) 11 (by kernel_rfl)).field Try.underlying45 2 rfl 2 (by kernel_rfl)).field Try.underlying23 0 rfl 1 (by kernel_rfl))
  have e1_3 : Tr enc Try.prog W 0 3 [c1_3] := (((T1.elem Try.underlying46 0 (by decide) 11 (by kernel_rfl)).field Try.underlying45 2 rfl 2 (by kernel_rfl)).field Try.underlying23 1 rfl 1 (by kernel_rfl))
  have e1_4 : Tr enc Try.prog W 0 5 [c1_4] := (((T1.elem Try.underlying46 0 (by decide) 11 (by kernel_rfl)).field Try.underlying45 3 rfl 7 (by kernel_rfl)).field Try.underlying43 0 rfl 1 (by kernel_rfl))
  have e1_5 : Tr enc Try.prog W 0 3 [c1_5] := (((T1.elem Try.underlying46 0 (by decide) 11 (by kernel_rfl)).field Try.underlying45 3 rfl 7 (by kernel_rfl)).field Try.underlying43 1 rfl 1 (by kernel_rfl))
  have e1_6 : Tr enc Try.prog W 0 3 [c1_6] := (((T1.elem Try.underlying46 0 (by decide) 11 (by kernel_rfl)).field Try.underlying45 3 rfl 7 (by kernel_rfl)).field Try.underlying43 2 rfl 1 (by kernel_rfl))
  have e1_7 : Tr enc Try.prog W 0 5 [c1_7] := ((((T1.elem Try.underlying46 0 (by decide) 11 (by kernel_rfl)).field Try.underlying45 3 rfl 7 (by kernel_rfl)).field Try.underlying43 3 rfl 4 (by kernel_rfl)).field Try.underlying41 0 rfl 1 (by kernel_rfl))
  have e1_8 : Tr enc Try.prog W 0 9 [c1_8] := ((((T1.elem Try.underlying46 0 (by decide) 11 (by kernel_rfl)).field Try.underlying45 3 rfl 7 (by kernel_rfl)).field Try.underlying43 3 rfl 4 (by kernel_rfl)).field Try.underlying41 1 rfl 1 (by kernel_rfl))
  have e1_9 : Tr enc Try.prog W 0 9 [c1_9] := ((((T1.elem Try.underlying46 0 (by decide) 11 (by kernel_rfl)).field Try.underlying45 3 rfl 7 (by kernel_rfl)).field Try.underlying43 3 rfl 4 (by kernel_rfl)).field Try.underlying41 2 rfl 1 (by kernel_rfl))
  have e1_10 : Tr enc Try.prog W 0 9 [c1_10] := ((((T1.elem Try.underlying46 0 (by decide) 11 (by kernel_rfl)).field Try.underlying45 3 rfl 7 (by kernel_rfl)).field Try.underlying43 3 rfl 4 (by kernel_rfl)).field Try.underlying41 3 rfl 1 (by kernel_rfl))
  have e1_11 : Tr enc Try.prog W 0 5 [c1_11] := ((T1.elem Try.underlying46 1 (by decide) 11 (by kernel_rfl)).field Try.underlying45 0 rfl 1 (by kernel_rfl))
  have e1_12 : Tr enc Try.prog W 0 3 [c1_12] := ((T1.elem Try.underlying46 1 (by decide) 11 (by kernel_rfl)).field Try.underlying45 1 rfl 1 (by kernel_rfl))
  have e1_13 : Tr enc Try.prog W 0 3 [c1_13] := (((T1.elem Try.underlying46 1 (by decide) 11 (by kernel_rfl)).field Try.underlying45 2 rfl 2 (by kernel_rfl)).field Try.underlying23 0 rfl 1 (by kernel_rfl))
  have e1_14 : Tr enc Try.prog W 0 3 [c1_14] := (((T1.elem Try.underlying46 1 (by decide) 11 (by kernel_rfl)).field Try.underlying45 2 rfl 2 (by kernel_rfl)).field Try.underlying23 1 rfl 1 (by kernel_rfl))
  have e1_15 : Tr enc Try.prog W 0 5 [c1_15] := (((T1.elem Try.underlying46 1 (by decide) 11 (by kernel_rfl)).field Try.underlying45 3 rfl 7 (by kernel_rfl)).field Try.underlying43 0 rfl 1 (by kernel_rfl))
  have e1_16 : Tr enc Try.prog W 0 3 [c1_16] := (((T1.elem Try.underlying46 1 (by decide) 11 (by kernel_rfl)).field Try.underlying45 3 rfl 7 (by kernel_rfl)).field Try.underlying43 1 rfl 1 (by kernel_rfl))
  have e1_17 : Tr enc Try.prog W 0 3 [c1_17] := (((T1.elem Try.underlying46 1 (by decide) 11 (by kernel_rfl)).field Try.underlying45 3 rfl 7 (by kernel_rfl)).field Try.underlying43 2 rfl 1 (by kernel_rfl))
  have e1_18 : Tr enc Try.prog W 0 5 [c1_18] := ((((T1.elem Try.underlying46 1 (by decide) 11 (by kernel_rfl)).field Try.underlying45 3 rfl 7 (by kernel_rfl)).field Try.underlying43 3 rfl 4 (by kernel_rfl)).field Try.underlying41 0 rfl 1 (by kernel_rfl))
  have e1_19 : Tr enc Try.prog W 0 9 [c1_19] := ((((T1.elem Try.underlying46 1 (by decide) 11 (by kernel_rfl)).field Try.underlying45 3 rfl 7 (by kernel_rfl)).field Try.underlying43 3 rfl 4 (by kernel_rfl)).field Try.underlying41 1 rfl 1 (by kernel_rfl))
  have e1_20 : Tr enc Try.prog W 0 9 [c1_20] := ((((T1.elem Try.underlying46 1 (by decide) 11 (by kernel_rfl)).field Try.underlying45 3 rfl 7 (by kernel_rfl)).field Try.underlying43 3 rfl 4 (by kernel_rfl)).field Try.underlying41 2 rfl 1 (by kernel_rfl))
  have e1_21 : Tr enc Try.prog W 0 9 [c1_21] := ((((T1.elem Try.underlying46 1 (by decide) 11 (by kernel_rfl)).field Try.underlying45 3 rfl 7 (by kernel_rfl)).field Try.underlying43 3 rfl 4 (by kernel_rfl)).field Try.underlying41 3 rfl 1 (by kernel_rfl))
  obtain ⟨a1_0, rfl, w1_0⟩ := e1_0.uint rfl Try.underlying5
  obtain ⟨a1_1, rfl, wl1_1, wh1_1⟩ := e1_1.i64 Try.underlying3
  obtain ⟨a1_2, rfl, wl1_2, wh1_2⟩ := e1_2.i64 Try.underlying3
  obtain ⟨a1_3, rfl, wl1_3, wh1_3⟩ := e1_3.i64 Try.underlying3
  obtain ⟨a1_4, rfl, w1_4⟩ := e1_4.uint rfl Try.underlying5
  obtain ⟨a1_5, rfl, wl1_5, wh1_5⟩ := e1_5.i64 Try.underlying3
  obtain ⟨a1_6, rfl, wl1_6, wh1_6⟩ := e1_6.i64 Try.underlying3
  obtain ⟨a1_7, rfl, w1_7⟩ := e1_7.uint rfl Try.underlying5
  obtain ⟨a1_8, rfl, w1_8⟩ := e1_8.str Try.underlying9
  obtain ⟨a1_9, rfl, w1_9⟩ := e1_9.str Try.underlying9
  obtain ⟨a1_10, rfl, w1_10⟩ := e1_10.str Try.underlying9
  obtain ⟨a1_11, rfl, w1_11⟩ := e1_11.uint rfl Try.underlying5
  obtain ⟨a1_12, rfl, wl1_12, wh1_12⟩ := e1_12.i64 Try.underlying3
  obtain ⟨a1_13, rfl, wl1_13, wh1_13⟩ := e1_13.i64 Try.underlying3
  obtain ⟨a1_14, rfl, wl1_14, wh1_14⟩ := e1_14.i64 Try.underlying3
  obtain ⟨a1_15, rfl, w1_15⟩ := e1_15.uint rfl Try.underlying5
  obtain ⟨a1_16, rfl, wl1_16, wh1_16⟩ := e1_16.i64 Try.underlying3
  obtain ⟨a1_17, rfl, wl1_17, wh1_17⟩ := e1_17.i64 Try.underlying3
  obtain ⟨a1_18, rfl, w1_18⟩ := e1_18.uint rfl Try.underlying5
  obtain ⟨a1_19, rfl, w1_19⟩ := e1_19.str Try.underlying9
  obtain ⟨a1_20, rfl, w1_20⟩ := e1_20.str Try.underlying9
  obtain ⟨a1_21, rfl, w1_21⟩ := e1_21.str Try.underlying9
  have k2 := h2
  have lt2 : ∀ x ∈ p2, x.block < W.heap.size := by obtain ⟨m, hm⟩ := k2; exact DataW.trod_lt m _ _ _ hm
  obtain ⟨a2, rfl, w2l, w2h⟩ := open_int_i64 Try.underlying3 (hval 2 3 v2 rfl rfl) h2
  clear hA0 hval0
  refine (slotWhere_walk a0_0 a0_1 a0_2 a0_3 a0_4 a1_0 a1_1 a1_2 a1_3 a1_4 a1_5 a1_6 a1_7 a1_8 a1_9 a1_10 a1_11 a1_12 a1_13 a1_14 a1_15 a1_16 a1_17 a1_18 a1_19 a1_20 a1_21 a2 W w0_0 wl0_1 wh0_1 wl0_2 wh0_2 wl0_3 wh0_3 wl0_4 wh0_4 w1_0 wl1_1 wh1_1 wl1_2 wh1_2 wl1_3 wh1_3 w1_4 wl1_5 wh1_5 wl1_6 wh1_6 w1_7 w1_8 w1_9 w1_10 w1_11 wl1_12 wh1_12 wl1_13 wh1_13 wl1_14 wh1_14 w1_15 wl1_16 wh1_16 wl1_17 wh1_17 w1_18 w1_19 w1_20 w1_21 w2l w2h).mono fun e W' ⟨he, bel⟩ => ?_
  subst he
  exact ⟨_, rfl, _, _, _, [], _, [], hW', trodAll_mk1 (shut_bool Try.underlying4 _), (trodAll_cons_mk (Below.trod laidOut_ (by kernel_rfl) (of_decide_eq_true (by kernel_rfl)) k0 bel lt0) (trodAll_cons_mk (Below.trod laidOut_ (by kernel_rfl) (of_decide_eq_true (by kernel_rfl)) k1 bel lt1) (trodAll_cons_mk (Below.trod laidOut_ (by kernel_rfl) (of_decide_eq_true (by kernel_rfl)) k2 bel lt2) trodAll_mk0))), rfl, bel.frame _, fun h => by cases h⟩

theorem over : Rows.slotWhereRow.holds Try.pinned (OpenSpec.ofChange Rows.slotWhereSpec) :=
  OpenClaim.holds_of_wide 5 Try.f5 rfl rfl rfl rfl rfl rfl rfl ⟨rfl, rfl, rfl, rfl, rfl⟩ rfl rfl rfl rfl rfl (by kernel_rfl) Try.func5 (by kernel_rfl)
    (of_decide_eq_true (by kernel_rfl)) (by unfold Func.isWrapper; first | (rw [if_pos (by decide +kernel)]; kernel_rfl) | (rw [if_neg (by decide +kernel)]; exact ⟨rfl, rfl⟩))
    (fun os started H enc _ => lifted os started H enc)

/-- THE STATEMENT -/
theorem proved : Rows.SlotWhereSaid := over
end Go.Proofs.Ytppokfenbdfegaa.slotWhere
