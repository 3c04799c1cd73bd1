/-
  THE LAW 'FrameNear' of the given program: for every input it returns true, and each argument reads behind the call as it read before. No condition.
-/
import Derived.Test.YtahfippapknolaaDoorTr
import Derived.Test.YtahfippapknolaaDoorCards
import Derived.Test.YtahfippapknolaaDoorTie
import Derived.Lay
import Derived.LaidLaws
import Derived.LaidMore
import Derived.Stop.Joined
import Derived.JoinedOf
import Derived.SevenTiedAt
import Derived.Test.YtahfippapknolaaDoorFrameLawsF
namespace Go.Proofs.YtahfippapknolaaDoor.frameNear
open Go.ChangeShapes Go.WideShapes Go.ChangeAt Go.RowKit
open Go.ChangeMaps (open_string shut_string)
set_option linter.unusedVariables false

theorem list_5 {α : Type} {l : List α} (h : l.length = 5) : ∃ a0 a1 a2 a3 a4, l = [a0, a1, a2, a3, a4] := by
  match l, h with
  | [a0, a1, a2, a3, a4], _ => exact ⟨a0, a1, a2, a3, a4, rfl⟩

set_option maxRecDepth 100000 in
theorem lifted (os : Os) (started : os.Started) (H : Type) (enc : TypeId × Value → H) :
    ReturnsInHanded {} Tryd.checked os 6 .any (fun w args => (Rows.frameNearSpec.pre enc Tryd.prog Tryd.f6 [] false w args ∧ laidMetH Tryd.prog Rows.frameNearRow.laid w) ∧ sizedMet enc Tryd.prog Tryd.f6 (OpenSpec.ofChange Rows.frameNearSpec) false w args) (Rows.frameNearSpec.post enc Tryd.prog Tryd.f6 false true false false) := by
  refine returnsInHanded_of_change_and (C := Tryd.checked) (X := fun w _ => laidMetH Tryd.prog Rows.frameNearRow.laid w) (fun _ _ _ hh h => h.of_heap hh) own_ started (by kernel_rfl) Tryd.func6
    (ChangeSpec.witness_shaped (enc := enc) (C := Tryd.checked) (os := os) (X := fun w _ => laidMetH Tryd.prog Rows.frameNearRow.laid w) false (World.laidAll Tryd.prog os Rows.frameNearRow.laid) #[.agg #[.int .i64 0, .int .i64 0, .int .i64 0, .int .i64 0, .int .i64 0], .slice none 0 0, .bool false, .int .u16 0, .int .u32 0] 8 (World.laidAll_os _ _ _)
      (World.shaped_of_ZipB (by kernel_rfl) (by kernel_rfl)) (by kernel_rfl) (by kernel_rfl) (by kernel_rfl)
      (by rw [MakeChecks.laidMetH_plain _ _ _ (by kernel_rfl)]; exact laidMet_laidAll _ (by kernel_rfl) (by kernel_rfl))) ?_
  intro W base args ds gs before hval0 hW _ _ hL _
  have hval : ∀ (j : Nat) t v, Tryd.f6.params[j]? = some t → args[j]? = some v → Value.okWide Tryd.prog W .any base t v := hval0
  have hW' := hW
  obtain ⟨p, q, hA0, hV, rfl, hfz, hnd⟩ := hW
  have hA : DataW.TrodAll enc Tryd.prog W 0 (fun _ => true) true Tryd.f6.params.toList args.toList ds p := hA0
  rw [Tryd.params6] at hA hval
  obtain ⟨v0, vs0, d0, ds0, p0, q0, hargs, rfl, rfl, h0, r0⟩ := trodAll_cons hA
  obtain ⟨v1, vs1, d1, ds1, p1, q1, rfl, rfl, rfl, h1, r1⟩ := trodAll_cons r0
  obtain ⟨v2, vs2, d2, ds2, p2, q2, rfl, rfl, rfl, h2, r2⟩ := trodAll_cons r1
  obtain ⟨v3, vs3, d3, ds3, p3, q3, rfl, rfl, rfl, h3, r3⟩ := trodAll_cons r2
  obtain ⟨v4, vs4, d4, ds4, p4, q4, rfl, rfl, rfl, h4, r4⟩ := trodAll_cons r3
  obtain ⟨rfl, rfl, rfl⟩ := trodAll_nil r4
  obtain rfl : args = #[v0, v1, v2, v3, v4] := by cases args; simp_all
  obtain ⟨rfl, rfl⟩ := trodVars_none hV
  have k0 := h0
  have lt0 : ∀ x ∈ p0, x.block < W.heap.size := by obtain ⟨m, hm⟩ := k0; exact DataW.trod_lt m _ _ _ hm
  obtain ⟨⟨cs0⟩, rfl, hz0⟩ := okWide_struct Tryd.underlying25 (hval 0 25 v0 rfl rfl)
  obtain ⟨c0_0, c0_1, c0_2, c0_3, c0_4, rfl⟩ := list_5 (show cs0.length = 5 from hz0.trans (by kernel_rfl))
  have T0 : Tr enc Tryd.prog W 0 25 [c0_0, c0_1, c0_2, c0_3, c0_4] := Tr.of h0
  have e0_0 : Tr enc Tryd.prog W 0 3 [c0_0] := (T0.field Tryd.underlying25 0 rfl 1 (by kernel_rfl))
  have e0_1 : Tr enc Tryd.prog W 0 3 [c0_1] := (T0.field Tryd.underlying25 1 rfl 1 (by kernel_rfl))
  have e0_2 : Tr enc Tryd.prog W 0 3 [c0_2] := (T0.field Tryd.underlying25 2 rfl 1 (by kernel_rfl))
  have e0_3 : Tr enc Tryd.prog W 0 3 [c0_3] := (T0.field Tryd.underlying25 3 rfl 1 (by kernel_rfl))
  have e0_4 : Tr enc Tryd.prog W 0 3 [c0_4] := (T0.field Tryd.underlying25 4 rfl 1 (by kernel_rfl))
  obtain ⟨a0_0, rfl, wl0_0, wh0_0⟩ := e0_0.i64 Tryd.underlying3
  obtain ⟨a0_1, rfl, wl0_1, wh0_1⟩ := e0_1.i64 Tryd.underlying3
  obtain ⟨a0_2, rfl, wl0_2, wh0_2⟩ := e0_2.i64 Tryd.underlying3
  obtain ⟨a0_3, rfl, wl0_3, wh0_3⟩ := e0_3.i64 Tryd.underlying3
  obtain ⟨a0_4, rfl, wl0_4, wh0_4⟩ := e0_4.i64 Tryd.underlying3
  have k1 := h1
  have lt1 : ∀ x ∈ p1, x.block < W.heap.size := by obtain ⟨m, hm⟩ := k1; exact DataW.trod_lt m _ _ _ hm
  obtain ⟨A1, n1, c1, rfl⟩ := okWide_slice Tryd.underlying22 (hval 1 22 v1 rfl rfl)
  have T1 : Tr enc Tryd.prog W 0 22 [.slice A1 n1 c1] := Tr.of h1
  obtain ⟨B1, d1_, l1, he1, hr1, hc1, hm1⟩ := T1.bytes Tryd.underlying22 Tryd.underlying5 (by kernel_rfl)
  injection he1 with i1a i1b i1c
  subst i1a i1b i1c
  have k2 := h2
  have lt2 : ∀ x ∈ p2, x.block < W.heap.size := by obtain ⟨m, hm⟩ := k2; exact DataW.trod_lt m _ _ _ hm
  obtain ⟨a2, rfl, _, _⟩ := open_bool Tryd.underlying4 (hval 2 4 v2 rfl rfl) h2
  have k3 := h3
  have lt3 : ∀ x ∈ p3, x.block < W.heap.size := by obtain ⟨m, hm⟩ := k3; exact DataW.trod_lt m _ _ _ hm
  obtain ⟨a3, rfl, w3⟩ := open_uint rfl Tryd.underlying38 (hval 3 38 v3 rfl rfl) h3
  have k4 := h4
  have lt4 : ∀ x ∈ p4, x.block < W.heap.size := by obtain ⟨m, hm⟩ := k4; exact DataW.trod_lt m _ _ _ hm
  obtain ⟨a4, rfl, w4⟩ := open_uint rfl Tryd.underlying44 (hval 4 44 v4 rfl rfl) h4
  clear hA0 hval0
  refine (frameNear_walk a0_0 a0_1 a0_2 a0_3 a0_4 A1 c1 l1 a2 a3 a4 W wl0_0 wh0_0 wl0_1 wh0_1 wl0_2 wh0_2 wl0_3 wh0_3 wl0_4 wh0_4 hr1 hc1 hm1 w3 w4).mono fun e W' ⟨he, bel⟩ => ?_
  subst he
  exact ⟨_, rfl, _, _, _, [], _, [], hW', trodAll_mk1 (shut_bool Tryd.underlying4 _), (trodAll_cons_mk (Below.trod laidOut_ (by kernel_rfl) (of_decide_eq_true (by kernel_rfl)) k0 bel lt0) (trodAll_cons_mk (Below.trod laidOut_ (by kernel_rfl) (of_decide_eq_true (by kernel_rfl)) k1 bel lt1) (trodAll_cons_mk (Below.trod laidOut_ (by kernel_rfl) (of_decide_eq_true (by kernel_rfl)) k2 bel lt2) (trodAll_cons_mk (Below.trod laidOut_ (by kernel_rfl) (of_decide_eq_true (by kernel_rfl)) k3 bel lt3) (trodAll_cons_mk (Below.trod laidOut_ (by kernel_rfl) (of_decide_eq_true (by kernel_rfl)) k4 bel lt4) trodAll_mk0))))), rfl, bel.frame _, fun h => by cases h⟩

theorem over : Rows.frameNearRow.holds Tryd.pinned (OpenSpec.ofChange Rows.frameNearSpec) :=
  OpenClaim.holds_of_wide 6 Tryd.f6 rfl rfl rfl rfl rfl rfl rfl ⟨rfl, rfl, rfl, rfl, rfl⟩ rfl rfl rfl rfl rfl (by kernel_rfl) Tryd.func6 (by kernel_rfl)
    (of_decide_eq_true (by kernel_rfl)) (by unfold Func.isWrapper; first | (rw [if_pos (by decide +kernel)]; kernel_rfl) | (rw [if_neg (by decide +kernel)]; exact ⟨rfl, rfl⟩))
    (fun os started H enc _ => lifted os started H enc)

set_option maxRecDepth 100000 in
/-- THE STATEMENT: the tied card -/
theorem proved : Rows.FrameNearCardSaid :=
  Claim7.holds_tied_plain_at .later [] [.data, .pinned] true (true, "22b3aa5b6d5479b3190d6ca53512dd46c3755809d2c73df5d22075ab9de85702") false over (fun _ h => by cases h) (by kernel_rfl) (fun _ h => by cases h) frameNear_row_tie rfl ⟨rfl, rfl⟩ (by kernel_rfl) rfl
    (fun f fn hf hfn => by
      obtain rfl : f = 6 := Option.some.inj ((show Tryd.prog.funcNamed "sexton/sextonlaw04.FrameNear" = some 6 by kernel_rfl).symm.trans hf) |>.symm
      obtain rfl : fn = Tryd.f6 := (Option.some.inj (Tryd.func6.symm.trans hfn)).symm
      exact ⟨by kernel_rfl, fun j t ht => by
        rw [Tryd.params6] at ht
        have hm : t ∈ [25, 22, 4, 38, 44] := by simpa using Array.mem_of_getElem? ht
        have hall : ([25, 22, 4, 38, 44].all fun u => !Tryd.prog.wantsStandIn u) = true := by kernel_rfl
        exact (show Tryd.prog.wantsStandIn t = false by simpa using List.all_eq_true.1 hall t hm)⟩)
    (by kernel_rfl)
end Go.Proofs.YtahfippapknolaaDoor.frameNear
