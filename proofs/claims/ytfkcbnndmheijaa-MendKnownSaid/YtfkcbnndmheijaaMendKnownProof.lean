/-
  THE LAW 'MendKnown' of the given program: for every input it returns true, and each argument reads behind the call as it read before. No condition.
-/
import Derived.Test.YtfkcbnndmheijaaTr
import Derived.Test.YtfkcbnndmheijaaMndI
namespace Go.Proofs.Ytfkcbnndmheijaa.mendKnown
open Go.ChangeShapes Go.WideShapes Go.ChangeAt Go.RowKit
open Go.ChangeMaps (open_string shut_string)
set_option linter.unusedVariables false

theorem list_17 {α : Type} {l : List α} (h : l.length = 17) : ∃ a0 a1 a2 a3 a4 a5 a6 a7 a8 a9 a10 a11 a12 a13 a14 a15 a16, l = [a0, a1, a2, a3, a4, a5, a6, a7, a8, a9, a10, a11, a12, a13, a14, a15, a16] := by
  match l, h with
  | [a0, a1, a2, a3, a4, a5, a6, a7, a8, a9, a10, a11, a12, a13, a14, a15, a16], _ => exact ⟨a0, a1, a2, a3, a4, a5, a6, a7, a8, a9, a10, a11, a12, a13, a14, a15, a16, rfl⟩

set_option maxRecDepth 100000 in
theorem lifted (os : Os) (started : os.Started) (H : Type) (enc : TypeId × Value → H) :
    ReturnsInHanded {} Try.checked os 7 .any (Rows.mendKnownSpec.pre6 enc Try.prog Try.f7 Rows.mendKnownRow.domain false) (Rows.mendKnownSpec.post enc Try.prog Try.f7 false true false false) := by
  refine returnsInHanded_of_change (C := Try.checked) own_ started (by kernel_rfl) Try.func7
    (ChangeSpec.witness6 (enc := enc) (C := Try.checked) false ⟨#[], #[.agg #[.int .i64 0, .int .i64 0, .int .i64 0, .int .i64 0, .int .i64 0, .int .u8 0, .int .i64 0, .int .i64 0, .int .u8 0, .int .i64 0, .int .i64 0, .int .u8 0, .string ByteArray.empty, .string ByteArray.empty, .string ByteArray.empty, .slice none 0 0, .bool false], .agg #[.int .u8 0, .int .i64 0, .int .i64 0, .int .i64 0, .int .i64 0, .int .i64 0, .int .i64 0, .int .i64 0, .int .i64 0, .int .i64 0, .int .i64 0, .int .u8 0, .int .i64 0, .int .i64 0, .int .u8 0, .string ByteArray.empty, .string ByteArray.empty, .string ByteArray.empty, .int .u8 0, .string ByteArray.empty, .string ByteArray.empty, .string ByteArray.empty, .int .i64 0, .bool false, .string ByteArray.empty, .slice none 0 0, .slice none 0 0]], []⟩ 8 (by kernel_rfl) (by kernel_rfl) (by kernel_rfl) (by kernel_rfl)) ?_
  intro W base args ds gs before hval0 hW hcnd _
  have hval : ∀ (j : Nat) t v, Try.f7.params[j]? = some t → args[j]? = some v → Value.okWide Try.prog W .any base t v := hval0
  have hW' := hW
  obtain ⟨p, q, hA0, hV, rfl, hfz, hnd⟩ := hW
  have hA : DataW.TrodAll enc Try.prog W 0 (fun _ => true) true Try.f7.params.toList args.toList ds p := hA0
  rw [Try.params7] at hA hval
  obtain ⟨v0, vs0, d0, ds0, p0, q0, hargs, rfl, rfl, h0, r0⟩ := trodAll_cons hA
  obtain ⟨v1, vs1, d1, ds1, p1, q1, rfl, rfl, rfl, h1, r1⟩ := trodAll_cons r0
  obtain ⟨rfl, rfl, rfl⟩ := trodAll_nil r1
  obtain rfl : args = #[v0, v1] := by cases args; simp_all
  obtain ⟨rfl, rfl⟩ := trodVars_none hV
  have k0 := h0
  have lt0 : ∀ x ∈ p0, x.block < W.heap.size := by obtain ⟨m, hm⟩ := k0; exact DataW.trod_lt m _ _ _ hm
  obtain ⟨⟨cs0⟩, rfl, hz0⟩ := okWide_struct Try.underlying49 (hval 0 49 v0 rfl rfl)
  obtain ⟨c0_0, c0_1, c0_2, c0_3, c0_4, c0_5, c0_6, c0_7, c0_8, c0_9, c0_10, c0_11, c0_12, c0_13, c0_14, c0_15, c0_16, rfl⟩ := list_17 (show cs0.length = 17 from hz0.trans (by kernel_rfl))
  have T0 : Tr enc Try.prog W 0 49 [c0_0, c0_1, c0_2, c0_3, c0_4, c0_5, c0_6, c0_7, c0_8, c0_9, c0_10, c0_11, c0_12, c0_13, c0_14, c0_15, c0_16] := Tr.of h0
  have e0_0 : Tr enc Try.prog W 0 3 [c0_0] := (T0.field Try.underlying49 0 rfl 1 (by kernel_rfl))
  have e0_1 : Tr enc Try.prog W 0 3 [c0_1] := (T0.field Try.underlying49 1 rfl 1 (by kernel_rfl))
  have e0_2 : Tr enc Try.prog W 0 3 [c0_2] := (T0.field Try.underlying49 2 rfl 1 (by kernel_rfl))
  have e0_3 : Tr enc Try.prog W 0 3 [c0_3] := (T0.field Try.underlying49 3 rfl 1 (by kernel_rfl))
  have e0_4 : Tr enc Try.prog W 0 3 [c0_4] := ((T0.field Try.underlying49 4 rfl 11 (by kernel_rfl)).field Try.underlying47 0 rfl 1 (by kernel_rfl))
  have e0_5 : Tr enc Try.prog W 0 5 [c0_5] := ((T0.field Try.underlying49 4 rfl 11 (by kernel_rfl)).field Try.underlying47 1 rfl 1 (by kernel_rfl))
  have e0_6 : Tr enc Try.prog W 0 3 [c0_6] := (((T0.field Try.underlying49 4 rfl 11 (by kernel_rfl)).field Try.underlying47 2 rfl 2 (by kernel_rfl)).field Try.underlying34 0 rfl 1 (by kernel_rfl))
  have e0_7 : Tr enc Try.prog W 0 3 [c0_7] := (((T0.field Try.underlying49 4 rfl 11 (by kernel_rfl)).field Try.underlying47 2 rfl 2 (by kernel_rfl)).field Try.underlying34 1 rfl 1 (by kernel_rfl))
  have e0_8 : Tr enc Try.prog W 0 5 [c0_8] := (((T0.field Try.underlying49 4 rfl 11 (by kernel_rfl)).field Try.underlying47 3 rfl 7 (by kernel_rfl)).field Try.underlying38 0 rfl 1 (by kernel_rfl))
  have e0_9 : Tr enc Try.prog W 0 3 [c0_9] := (((T0.field Try.underlying49 4 rfl 11 (by kernel_rfl)).field Try.underlying47 3 rfl 7 (by kernel_rfl)).field Try.underlying38 1 rfl 1 (by kernel_rfl))
  have e0_10 : Tr enc Try.prog W 0 3 [c0_10] := (((T0.field Try.underlying49 4 rfl 11 (by kernel_rfl)).field Try.underlying47 3 rfl 7 (by kernel_rfl)).field Try.underlying38 2 rfl 1 (by kernel_rfl))
  have e0_11 : Tr enc Try.prog W 0 5 [c0_11] := ((((T0.field Try.underlying49 4 rfl 11 (by kernel_rfl)).field Try.underlying47 3 rfl 7 (by kernel_rfl)).field Try.underlying38 3 rfl 4 (by kernel_rfl)).field Try.underlying36 0 rfl 1 (by kernel_rfl))
  have e0_12 : Tr enc Try.prog W 0 9 [c0_12] := ((((T0.field Try.underlying49 4 rfl 11 (by kernel_rfl)).field Try.underlying47 3 rfl 7 (by kernel_rfl)).field Try.underlying38 3 rfl 4 (by kernel_rfl)).field Try.underlying36 1 rfl 1 (by kernel_rfl))
  have e0_13 : Tr enc Try.prog W 0 9 [c0_13] := ((((T0.field Try.underlying49 4 rfl 11 (by kernel_rfl)).field Try.underlying47 3 rfl 7 (by kernel_rfl)).field Try.underlying38 3 rfl 4 (by kernel_rfl)).field Try.underlying36 2 rfl 1 (by kernel_rfl))
  have e0_14 : Tr enc Try.prog W 0 9 [c0_14] := ((((T0.field Try.underlying49 4 rfl 11 (by kernel_rfl)).field Try.underlying47 3 rfl 7 (by kernel_rfl)).field Try.underlying38 3 rfl 4 (by kernel_rfl)).field Try.underlying36 3 rfl 1 (by kernel_rfl))
  have e0_15 : Tr enc Try.prog W 0 43 [c0_15] := (T0.field Try.underlying49 5 rfl 1 (by kernel_rfl))
  have e0_16 : Tr enc Try.prog W 0 4 [c0_16] := (T0.field Try.underlying49 6 rfl 1 (by kernel_rfl))
  obtain ⟨a0_0, rfl, wl0_0, wh0_0⟩ := e0_0.i64 Try.underlying3
  obtain ⟨a0_1, rfl, wl0_1, wh0_1⟩ := e0_1.i64 Try.underlying3
  obtain ⟨a0_2, rfl, wl0_2, wh0_2⟩ := e0_2.i64 Try.underlying3
  obtain ⟨a0_3, rfl, wl0_3, wh0_3⟩ := e0_3.i64 Try.underlying3
  obtain ⟨a0_4, rfl, wl0_4, wh0_4⟩ := e0_4.i64 Try.underlying3
  obtain ⟨a0_5, rfl, w0_5⟩ := e0_5.uint rfl Try.underlying5
  obtain ⟨a0_6, rfl, wl0_6, wh0_6⟩ := e0_6.i64 Try.underlying3
  obtain ⟨a0_7, rfl, wl0_7, wh0_7⟩ := e0_7.i64 Try.underlying3
  obtain ⟨a0_8, rfl, w0_8⟩ := e0_8.uint rfl Try.underlying5
  obtain ⟨a0_9, rfl, wl0_9, wh0_9⟩ := e0_9.i64 Try.underlying3
  obtain ⟨a0_10, rfl, wl0_10, wh0_10⟩ := e0_10.i64 Try.underlying3
  obtain ⟨a0_11, rfl, w0_11⟩ := e0_11.uint rfl Try.underlying5
  obtain ⟨a0_12, rfl, w0_12⟩ := e0_12.str Try.underlying9
  obtain ⟨a0_13, rfl, w0_13⟩ := e0_13.str Try.underlying9
  obtain ⟨a0_14, rfl, w0_14⟩ := e0_14.str Try.underlying9
  obtain ⟨A0_15, c0_15, l0_15, rfl, hr0_15, hc0_15, hm0_15⟩ := e0_15.bytes Try.underlying43 Try.underlying5 (by kernel_rfl)
  obtain ⟨a0_16, rfl⟩ := e0_16.bool Try.underlying4
  have k1 := h1
  have lt1 : ∀ x ∈ p1, x.block < W.heap.size := by obtain ⟨m, hm⟩ := k1; exact DataW.trod_lt m _ _ _ hm
  obtain ⟨⟨cs1⟩, rfl, hz1⟩ := okWide_struct Try.underlying45 (hval 1 45 v1 rfl rfl)
  have T1 : Tr enc Try.prog W 0 45 cs1 := Tr.of h1
  obtain ⟨m1, rs1, l1, rfl, hn1, hr1⟩ := T1.msg (show cs1.length = 27 from hz1.trans (by kernel_rfl))
  clear hA0 hval0
  refine (mendKnown_walk a0_0 a0_1 a0_2 a0_3 a0_4 a0_5 a0_6 a0_7 a0_8 a0_9 a0_10 a0_11 a0_12 a0_13 a0_14 A0_15 c0_15 l0_15 a0_16 m1 rs1 l1 W wl0_0 wh0_0 wl0_1 wh0_1 wl0_2 wh0_2 wl0_3 wh0_3 wl0_4 wh0_4 w0_5 wl0_6 wh0_6 wl0_7 wh0_7 w0_8 wl0_9 wh0_9 wl0_10 wh0_10 w0_11 w0_12 w0_13 w0_14 hr0_15 hc0_15 hm0_15 hn1 hr1).mono fun e W' ⟨he, bel⟩ => ?_
  subst he
  exact ⟨_, rfl, _, _, _, [], _, [], hW', trodAll_mk1 (shut_bool Try.underlying4 _), (trodAll_cons_mk (Below.trod laidOut_ (by kernel_rfl) (of_decide_eq_true (by kernel_rfl)) k0 bel lt0) (trodAll_cons_mk (Below.trod laidOut_ (by kernel_rfl) (of_decide_eq_true (by kernel_rfl)) k1 bel lt1) trodAll_mk0)), rfl, bel.frame _, fun h => by cases h⟩

theorem over : Rows.mendKnownRow.holds Try.pinned (OpenSpec.ofChange Rows.mendKnownSpec) :=
  OpenClaim.holds_of_wide 7 Try.f7 rfl rfl rfl rfl rfl rfl rfl ⟨rfl, rfl, rfl, rfl, rfl⟩ rfl rfl rfl rfl rfl (by kernel_rfl) Try.func7 (by kernel_rfl)
    (of_decide_eq_true (by kernel_rfl)) (by unfold Func.isWrapper; first | (rw [if_pos (by decide +kernel)]; kernel_rfl) | (rw [if_neg (by decide +kernel)]; exact ⟨rfl, rfl⟩))
    (fun os started H enc _ => lifted os started H enc)

/-- THE STATEMENT -/
theorem proved : Rows.MendKnownSaid := over
end Go.Proofs.Ytfkcbnndmheijaa.mendKnown
