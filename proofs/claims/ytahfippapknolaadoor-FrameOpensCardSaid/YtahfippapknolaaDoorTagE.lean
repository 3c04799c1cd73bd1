/-
  THE WALKS OF tag/tag.go: Print.
-/
import Derived.Test.YtahfippapknolaaDoorTagD
import Derived.Test.YtahfippapknolaaDoorOct
namespace Go.Proofs.YtahfippapknolaaDoor
open Go.RowKit
set_option linter.unusedVariables false

theorem widths_any (w : World) : Calls Tryd.prog 37 #[] w (RetV w (.agg #[.int .i64 1, .int .i64 1, .int .i64 1, .int .i64 6, .int .i64 6])) := by
  go_enter Tryd.func37, Tryd.ntmps37
  go_wp2_with fail
  refine bodyPost_ret (v := .agg #[.int .i64 1, .int .i64 1, .int .i64 1, .int .i64 6, .int .i64 6]) ?_ rfl ⟨rfl, ?_⟩
  · simp [results, Tryd.results37, go_sem]
  · exact (Below.refl _ _).alloc (Nat.le_refl _) _

theorem ix0 (a b c d e : Int) (w : World) : (Instr.index 64 (.agg #[.int .i64 a, .int .i64 b, .int .i64 c, .int .i64 d, .int .i64 e]) (.int .i64 0)).run Tryd.prog w = .ok (.int .i64 a) w := by kernel_rfl
theorem ix1 (a b c d e : Int) (w : World) : (Instr.index 64 (.agg #[.int .i64 a, .int .i64 b, .int .i64 c, .int .i64 d, .int .i64 e]) (.int .i64 1)).run Tryd.prog w = .ok (.int .i64 b) w := by kernel_rfl
theorem ix2 (a b c d e : Int) (w : World) : (Instr.index 64 (.agg #[.int .i64 a, .int .i64 b, .int .i64 c, .int .i64 d, .int .i64 e]) (.int .i64 2)).run Tryd.prog w = .ok (.int .i64 c) w := by kernel_rfl
theorem ix3 (a b c d e : Int) (w : World) : (Instr.index 64 (.agg #[.int .i64 a, .int .i64 b, .int .i64 c, .int .i64 d, .int .i64 e]) (.int .i64 3)).run Tryd.prog w = .ok (.int .i64 d) w := by kernel_rfl
theorem ix4 (a b c d e : Int) (w : World) : (Instr.index 64 (.agg #[.int .i64 a, .int .i64 b, .int .i64 c, .int .i64 d, .int .i64 e]) (.int .i64 4)).run Tryd.prog w = .ok (.int .i64 e) w := by kernel_rfl

set_option maxHeartbeats 4000000 in
theorem print_true (rp rg pl ix ic : Int) (w : World) (hm : mayB rp rg pl ix ic = true) : Calls Tryd.prog 29 #[.agg #[.int .i64 rp, .int .i64 rg, .int .i64 pl, .int .i64 ix, .int .i64 ic]] w (RetBI w (tagPre rp rg pl ix ic 5) 0) := by
  obtain ⟨s0, s1, s2, s3, s4⟩ := tagPre_succ hm
  have S0 := Lib.hid s0
  have S1 := Lib.hid s1
  have S2 := Lib.hid s2
  have S3 := Lib.hid s3
  have S4 := Lib.hid s4
  have HM := Lib.hid hm
  have L0 := tagPre_length rp rg pl ix ic 0
  have L1 := tagPre_length rp rg pl ix ic 1
  have L2 := tagPre_length rp rg pl ix ic 2
  have L3 := tagPre_length rp rg pl ix ic 3
  have L4 := tagPre_length rp rg pl ix ic 4
  have q0 := putL_length6 1 rp
  have q1 := putL_length6 1 rg
  have q2 := putL_length6 1 pl
  have q3 := putL_length6 6 ix
  have q4 := putL_length6 6 ic
  have i0 := ix0
  have i1 := ix1
  have i2 := ix2
  have i3 := ix3
  have i4 := ix4
  clear s0 s1 s2 s3 s4 hm
  go_enter Tryd.func29, Tryd.ntmps29
  go_wp2_with fail
  refine (may_any _ _ _ _ _ _).mono ?_
  rw [HM.out]
  rintro e w1 ⟨rfl, hb1⟩
  have hz : w.heap.size < w1.heap.size := by have := hb1.size; simp at this; omega
  have hbb : Below w.heap.size w w1 := ((Below.refl _ _).alloc (Nat.le_refl _) _).trans (hb1.mono (by simp))
  obtain ⟨hc, hf⟩ := bcell hb1
  clear hb1
  go_wp2_with fail
  go_loopw [4, 23] (fun o i wr => ∃ (k n : Nat) (A : Option Addr) (c : Nat), k ≤ 5 ∧ i = .int .i64 k ∧ o = .slice A n c ∧ Hid (n = (tagPre rp rg pl ix ic k).length) ∧ Own wr w.heap.size A c (tagPre rp rg pl ix ic k) ∧ Below w.heap.size w wr) (fun _ i _ => 5 - (intOf i).toNat)
  case atStart => exact ⟨0, 0, none, 0, by omega, rfl, rfl, Lib.hid rfl, Own.none_ _ _, hbb⟩
  case round =>
    obtain ⟨k, n, A, c, hk, rfl, rfl, HN, hown, hbr⟩ := hrel
    have hzr := hbr.size
    clear hc hf
    by_cases h5 : k = 5
    · subst h5
      go_wp2_with fail
      go_ret2
      exact ⟨A, c, by rw [HN.out]; rfl, hown, hbr⟩
    · have hk5 : k = 0 ∨ k = 1 ∨ k = 2 ∨ k = 3 ∨ k = 4 := by omega
      clear hk h5
      rcases hk5 with rfl | rfl | rfl | rfl | rfl
      all_goals
        go_wp2_with fail
        refine (widths_any _).mono ?_
        rintro e w2 ⟨rfl, hb2⟩
        go_wp2_with fail
        refine (put_any _ _ _).mono ?_
        rintro e w3 ⟨A3, c3, rfl, hown3, hb3⟩
        have hown4 := (hown.below hb2).below hb3
        have hbr4 := bt (bt hbr hb2) hb3
        have hz4 := hbr4.size
        go_wp2_with (at_builtin; refine wpList_append_bytes _ rfl _ _ rfl w.heap.size A n c _ rfl HN.out hown4 A3 _ c3 _ rfl rfl hown3.rd (by omega) hz4 ?_; intro A5 c5 w5 hown5 hb5 _)
        go_roundw
        case measure => simp [intOf]
        case rel =>
          refine ⟨_, _, A5, c5, ?_, rfl, rfl, Lib.hid ?_, ?_, hbr4.trans hb5⟩
          · decide
          · first | exact congrArg List.length S0.out.symm | exact congrArg List.length S1.out.symm | exact congrArg List.length S2.out.symm | exact congrArg List.length S3.out.symm | exact congrArg List.length S4.out.symm | (simp only [S0.out, S1.out, S2.out, S3.out, S4.out, List.length_append]; done)
          · first | (rw [S0.out]; exact hown5) | (rw [S1.out]; exact hown5) | (rw [S2.out]; exact hown5) | (rw [S3.out]; exact hown5) | (rw [S4.out]; exact hown5)


theorem print_any (rp rg pl ix ic : Int) (w : World) : Calls Tryd.prog 29 #[.agg #[.int .i64 rp, .int .i64 rg, .int .i64 pl, .int .i64 ix, .int .i64 ic]] w (RetBI w (tagL rp rg pl ix ic) (tagE rp rg pl ix ic)) := by
  cases hm : mayB rp rg pl ix ic
  · rw [show tagL rp rg pl ix ic = [] by simp [tagL, hm], show tagE rp rg pl ix ic = 2 by simp [tagE, hm]]
    have HM := Lib.hid hm
    clear hm
    go_enter Tryd.func29, Tryd.ntmps29
    go_wp2_with fail
    refine (may_any _ _ _ _ _ _).mono ?_
    rw [HM.out]
    rintro e w1 ⟨rfl, hb1⟩
    go_wp2_with fail
    go_ret2
    exact ⟨none, 0, rfl, Own.none_ _ _, ((Below.refl _ _).alloc (Nat.le_refl _) _).trans (hb1.mono (by simp))⟩
  · have := print_true rp rg pl ix ic w hm
    rw [tagPre_all hm] at this
    rwa [show tagE rp rg pl ix ic = 0 by simp [tagE, hm]]
end Go.Proofs.YtahfippapknolaaDoor
