/-
  THE WALKS OF tag/tag.go: May.
-/
import Derived.Test.YtahfippapknolaaDoorTagA
import Derived.Test.YtahfippapknolaaDoorCalm
import Derived.Deep.RegionWith
namespace Go.Proofs.YtahfippapknolaaDoor
open Go.RowKit
set_option linter.unusedVariables false
attribute [local go_sem] BW_cell BW_frozen

theorem in_any (n l m : Int) (w : World) : Calls Tryd.prog 32 #[.int .i64 n, .int .i64 l, .int .i64 m] w fun e w' => e = .returned (.bool (inB n l m)) ∧ w = w' := by
  by_cases h1 : l ≤ n
  · by_cases h2 : n ≤ m
    · go_enter Tryd.func32, Tryd.ntmps32
      go_wp2_with fail
      go_ret
      exact ⟨ret_bool (by simp [inB, h1, h2]), rfl⟩
    · go_enter Tryd.func32, Tryd.ntmps32
      go_wp2_with fail
      go_ret
      exact ⟨ret_bool (by simp [inB, h1, h2]), rfl⟩
  · go_enter Tryd.func32, Tryd.ntmps32
    go_wp2_with fail
    go_ret
    exact ⟨ret_bool (by simp [inB]; omega), rfl⟩

theorem in_of {n l m : Int} {b : Bool} (h : inB n l m = b) (w : World) : Calls Tryd.prog 32 #[.int .i64 n, .int .i64 l, .int .i64 m] w fun e w' => e = .returned (.bool b) ∧ w = w' := by
  subst h
  exact in_any n l m w

set_option maxHeartbeats 4000000 in
theorem may_0 (rp rg pl ix ic : Int) (w : World) (h0 : inB rp 0 6 = false) : Calls Tryd.prog 17 #[.agg #[.int .i64 rp, .int .i64 rg, .int .i64 pl, .int .i64 ix, .int .i64 ic]] w (RetV w (.bool false)) := by
  have H0 := Lib.hid h0
  have hp0 := (plc_bd rg).1
  have hp1 := (plc_bd rg).2.1
  clear h0
  go_enter Tryd.func17, Tryd.ntmps17
  go_wp2_with fail
  refine wp_region_calm (by kernel_rfl) (by kernel_rfl) ?_
  repeat (go_big_quiet_step (first
      | (go_at_call_of 32 rp; exact calm_same (in_of H0.out _))))
  refine wpQuiet_nil ?_
  intro w' hw'
  have hb := BW_get hw'
  clear hw'
  go_wp2_with fail
  go_ret
  exact ⟨rfl, ((Below.refl _ _).alloc (Nat.le_refl _) _).trans (hb.mono (by simp))⟩
set_option maxHeartbeats 4000000 in
theorem may_1 (rp rg pl ix ic : Int) (w : World) (h0 : inB rp 0 6 = true) (h1 : inB pl 0 (plc rg - 1) = false) : Calls Tryd.prog 17 #[.agg #[.int .i64 rp, .int .i64 rg, .int .i64 pl, .int .i64 ix, .int .i64 ic]] w (RetV w (.bool false)) := by
  have H0 := Lib.hid h0
  have H1 := Lib.hid h1
  have hp0 := (plc_bd rg).1
  have hp1 := (plc_bd rg).2.1
  clear h0 h1
  go_enter Tryd.func17, Tryd.ntmps17
  go_wp2_with fail
  refine wp_region_calm (by kernel_rfl) (by kernel_rfl) ?_
  repeat (go_big_quiet_step (first
      | (go_at_call_of 32 rp; exact calm_same (in_of H0.out _))
      | (go_at_call_of 32 pl; exact calm_same (in_of H1.out _))
      | (go_at_call 33; exact calm_of (places_any _ _))))
  refine wpQuiet_nil ?_
  intro w' hw'
  have hb := BW_get hw'
  clear hw'
  go_wp2_with fail
  go_ret
  exact ⟨rfl, ((Below.refl _ _).alloc (Nat.le_refl _) _).trans (hb.mono (by simp))⟩
set_option maxHeartbeats 4000000 in
theorem may_2 (rp rg pl ix ic : Int) (w : World) (h0 : inB rp 0 6 = true) (h1 : inB pl 0 (plc rg - 1) = true) (h2 : inB ix 0 1099511627776 = false) : Calls Tryd.prog 17 #[.agg #[.int .i64 rp, .int .i64 rg, .int .i64 pl, .int .i64 ix, .int .i64 ic]] w (RetV w (.bool false)) := by
  have H0 := Lib.hid h0
  have H1 := Lib.hid h1
  have H2 := Lib.hid h2
  have hp0 := (plc_bd rg).1
  have hp1 := (plc_bd rg).2.1
  clear h0 h1 h2
  go_enter Tryd.func17, Tryd.ntmps17
  go_wp2_with fail
  refine wp_region_calm (by kernel_rfl) (by kernel_rfl) ?_
  repeat (go_big_quiet_step (first
      | (go_at_call_of 32 rp; exact calm_same (in_of H0.out _))
      | (go_at_call_of 32 pl; exact calm_same (in_of H1.out _))
      | (go_at_call_of 32 ix; exact calm_same (in_of H2.out _))
      | (go_at_call 33; exact calm_of (places_any _ _))))
  refine wpQuiet_nil ?_
  intro w' hw'
  have hb := BW_get hw'
  clear hw'
  go_wp2_with fail
  go_ret
  exact ⟨rfl, ((Below.refl _ _).alloc (Nat.le_refl _) _).trans (hb.mono (by simp))⟩
set_option maxHeartbeats 4000000 in
theorem may_3 (rp rg pl ix ic : Int) (w : World) (h0 : inB rp 0 6 = true) (h1 : inB pl 0 (plc rg - 1) = true) (h2 : inB ix 0 1099511627776 = true) (h3 : inB ic 1 1099511627776 = false) : Calls Tryd.prog 17 #[.agg #[.int .i64 rp, .int .i64 rg, .int .i64 pl, .int .i64 ix, .int .i64 ic]] w (RetV w (.bool false)) := by
  have H0 := Lib.hid h0
  have H1 := Lib.hid h1
  have H2 := Lib.hid h2
  have H3 := Lib.hid h3
  have hp0 := (plc_bd rg).1
  have hp1 := (plc_bd rg).2.1
  clear h0 h1 h2 h3
  go_enter Tryd.func17, Tryd.ntmps17
  go_wp2_with fail
  refine wp_region_calm (by kernel_rfl) (by kernel_rfl) ?_
  repeat (go_big_quiet_step (first
      | (go_at_call_of 32 rp; exact calm_same (in_of H0.out _))
      | (go_at_call_of 32 pl; exact calm_same (in_of H1.out _))
      | (go_at_call_of 32 ix; exact calm_same (in_of H2.out _))
      | (go_at_call_of 32 ic; exact calm_same (in_of H3.out _))
      | (go_at_call 33; exact calm_of (places_any _ _))))
  refine wpQuiet_nil ?_
  intro w' hw'
  have hb := BW_get hw'
  clear hw'
  go_wp2_with fail
  go_ret
  exact ⟨rfl, ((Below.refl _ _).alloc (Nat.le_refl _) _).trans (hb.mono (by simp))⟩
set_option maxHeartbeats 4000000 in
theorem may_4 (rp rg pl ix ic : Int) (w : World) (h0 : inB rp 0 6 = true) (h1 : inB pl 0 (plc rg - 1) = true) (h2 : inB ix 0 1099511627776 = true) (h3 : inB ic 1 1099511627776 = true) : Calls Tryd.prog 17 #[.agg #[.int .i64 rp, .int .i64 rg, .int .i64 pl, .int .i64 ix, .int .i64 ic]] w (RetV w (.bool true)) := by
  have H0 := Lib.hid h0
  have H1 := Lib.hid h1
  have H2 := Lib.hid h2
  have H3 := Lib.hid h3
  have hp0 := (plc_bd rg).1
  have hp1 := (plc_bd rg).2.1
  clear h0 h1 h2 h3
  go_enter Tryd.func17, Tryd.ntmps17
  go_wp2_with fail
  refine wp_region_calm (by kernel_rfl) (by kernel_rfl) ?_
  repeat (go_big_quiet_step (first
      | (go_at_call_of 32 rp; exact calm_same (in_of H0.out _))
      | (go_at_call_of 32 pl; exact calm_same (in_of H1.out _))
      | (go_at_call_of 32 ix; exact calm_same (in_of H2.out _))
      | (go_at_call_of 32 ic; exact calm_same (in_of H3.out _))
      | (go_at_call 33; exact calm_of (places_any _ _))))
  refine wpQuiet_nil ?_
  intro w' hw'
  have hb := BW_get hw'
  clear hw'
  go_wp2_with fail
  go_ret
  exact ⟨rfl, ((Below.refl _ _).alloc (Nat.le_refl _) _).trans (hb.mono (by simp))⟩
theorem may_any (rp rg pl ix ic : Int) (w : World) : Calls Tryd.prog 17 #[.agg #[.int .i64 rp, .int .i64 rg, .int .i64 pl, .int .i64 ix, .int .i64 ic]] w (RetV w (.bool (mayB rp rg pl ix ic))) := by
  cases h0 : inB rp 0 6
  · rw [show mayB rp rg pl ix ic = false by simp [mayB, h0]]; exact may_0 rp rg pl ix ic w h0
  cases h1 : inB pl 0 (plc rg - 1)
  · rw [show mayB rp rg pl ix ic = false by simp [mayB, h1]]; exact may_1 rp rg pl ix ic w h0 h1
  cases h2 : inB ix 0 1099511627776
  · rw [show mayB rp rg pl ix ic = false by simp [mayB, h2]]; exact may_2 rp rg pl ix ic w h0 h1 h2
  cases h3 : inB ic 1 1099511627776
  · rw [show mayB rp rg pl ix ic = false by simp [mayB, h3]]; exact may_3 rp rg pl ix ic w h0 h1 h2 h3
  rw [show mayB rp rg pl ix ic = true by simp [mayB, h0, h1, h2, h3]]; exact may_4 rp rg pl ix ic w h0 h1 h2 h3
end Go.Proofs.YtahfippapknolaaDoor
