/-
  THE WALKS OF THE REFERENCE's tags: May, Print, Parse.
-/
import Derived.Test.YtahfippapknolaaDoorTagF
import Derived.Test.YtahfippapknolaaDoorTagC
import Derived.Test.YtahfippapknolaaDoorRef01
namespace Go.Proofs.YtahfippapknolaaDoor
open Go.RowKit
set_option linter.unusedVariables false
attribute [local go_sem] BW_cell BW_frozen

set_option maxHeartbeats 4000000 in
theorem rmay_0 (rp rg pl ix ic : Int) (w : World) (h0 : rp < 0) : Calls Tryd.prog 40 #[.agg #[.int .i64 rp, .int .i64 rg, .int .i64 pl, .int .i64 ix, .int .i64 ic]] w (RetV w (.bool false)) := by
  go_enter Tryd.func40, Tryd.ntmps40
  go_wp2_with fail
  refine wp_region_calm (by kernel_rfl) (by kernel_rfl) ?_
  repeat (go_big_quiet_step ((go_at_call 55; exact calm_same (rplaces_any _ _))))
  refine wpQuiet_nil ?_
  intro w' hw'
  have hb := BW_get hw'
  clear hw'
  obtain ⟨hc, hf⟩ := bcell hb
  go_wp2_with fail
  go_ret
  exact ⟨rfl, ((Below.refl _ _).alloc (Nat.le_refl _) _).trans (hb.mono (by simp))⟩
set_option maxHeartbeats 4000000 in
theorem rmay_1 (rp rg pl ix ic : Int) (w : World) (h0 : ¬ rp < 0) (h1 : 6 < rp) : Calls Tryd.prog 40 #[.agg #[.int .i64 rp, .int .i64 rg, .int .i64 pl, .int .i64 ix, .int .i64 ic]] w (RetV w (.bool false)) := by
  have g0 : decide (rp < 0) = false := decide_eq_false h0
  go_enter Tryd.func40, Tryd.ntmps40
  go_wp2_with fail
  refine wp_region_calm (by kernel_rfl) (by kernel_rfl) ?_
  repeat (go_big_quiet_step ((go_at_call 55; exact calm_same (rplaces_any _ _))))
  refine wpQuiet_nil ?_
  intro w' hw'
  have hb := BW_get hw'
  clear hw'
  obtain ⟨hc, hf⟩ := bcell hb
  go_wp2_with fail
  go_ret
  exact ⟨rfl, ((Below.refl _ _).alloc (Nat.le_refl _) _).trans (hb.mono (by simp))⟩
set_option maxHeartbeats 4000000 in
theorem rmay_2 (rp rg pl ix ic : Int) (w : World) (h0 : ¬ rp < 0) (h1 : ¬ 6 < rp) (h2 : rg < 1) : Calls Tryd.prog 40 #[.agg #[.int .i64 rp, .int .i64 rg, .int .i64 pl, .int .i64 ix, .int .i64 ic]] w (RetV w (.bool false)) := by
  have g0 : decide (rp < 0) = false := decide_eq_false h0
  have g1 : decide (6 < rp) = false := decide_eq_false h1
  go_enter Tryd.func40, Tryd.ntmps40
  go_wp2_with fail
  refine wp_region_calm (by kernel_rfl) (by kernel_rfl) ?_
  repeat (go_big_quiet_step ((go_at_call 55; exact calm_same (rplaces_any _ _))))
  refine wpQuiet_nil ?_
  intro w' hw'
  have hb := BW_get hw'
  clear hw'
  obtain ⟨hc, hf⟩ := bcell hb
  go_wp2_with fail
  go_ret
  exact ⟨rfl, ((Below.refl _ _).alloc (Nat.le_refl _) _).trans (hb.mono (by simp))⟩
set_option maxHeartbeats 4000000 in
theorem rmay_3 (rp rg pl ix ic : Int) (w : World) (h0 : ¬ rp < 0) (h1 : ¬ 6 < rp) (h2 : ¬ rg < 1) (h3 : 5 < rg) : Calls Tryd.prog 40 #[.agg #[.int .i64 rp, .int .i64 rg, .int .i64 pl, .int .i64 ix, .int .i64 ic]] w (RetV w (.bool false)) := by
  have g0 : decide (rp < 0) = false := decide_eq_false h0
  have g1 : decide (6 < rp) = false := decide_eq_false h1
  have g2 : decide (rg < 1) = false := decide_eq_false h2
  go_enter Tryd.func40, Tryd.ntmps40
  go_wp2_with fail
  refine wp_region_calm (by kernel_rfl) (by kernel_rfl) ?_
  repeat (go_big_quiet_step ((go_at_call 55; exact calm_same (rplaces_any _ _))))
  refine wpQuiet_nil ?_
  intro w' hw'
  have hb := BW_get hw'
  clear hw'
  obtain ⟨hc, hf⟩ := bcell hb
  go_wp2_with fail
  go_ret
  exact ⟨rfl, ((Below.refl _ _).alloc (Nat.le_refl _) _).trans (hb.mono (by simp))⟩
set_option maxHeartbeats 4000000 in
theorem rmay_4 (rp rg pl ix ic : Int) (w : World) (h0 : ¬ rp < 0) (h1 : ¬ 6 < rp) (h2 : ¬ rg < 1) (h3 : ¬ 5 < rg) (h4 : pl < 0) : Calls Tryd.prog 40 #[.agg #[.int .i64 rp, .int .i64 rg, .int .i64 pl, .int .i64 ix, .int .i64 ic]] w (RetV w (.bool false)) := by
  have g0 : decide (rp < 0) = false := decide_eq_false h0
  have g1 : decide (6 < rp) = false := decide_eq_false h1
  have g2 : decide (rg < 1) = false := decide_eq_false h2
  have g3 : decide (5 < rg) = false := decide_eq_false h3
  go_enter Tryd.func40, Tryd.ntmps40
  go_wp2_with fail
  refine wp_region_calm (by kernel_rfl) (by kernel_rfl) ?_
  repeat (go_big_quiet_step ((go_at_call 55; exact calm_same (rplaces_any _ _))))
  refine wpQuiet_nil ?_
  intro w' hw'
  have hb := BW_get hw'
  clear hw'
  obtain ⟨hc, hf⟩ := bcell hb
  go_wp2_with fail
  go_ret
  exact ⟨rfl, ((Below.refl _ _).alloc (Nat.le_refl _) _).trans (hb.mono (by simp))⟩
set_option maxHeartbeats 4000000 in
theorem rmay_5 (rp rg pl ix ic : Int) (w : World) (h0 : ¬ rp < 0) (h1 : ¬ 6 < rp) (h2 : ¬ rg < 1) (h3 : ¬ 5 < rg) (h4 : ¬ pl < 0) (h5 : plc rg ≤ pl) : Calls Tryd.prog 40 #[.agg #[.int .i64 rp, .int .i64 rg, .int .i64 pl, .int .i64 ix, .int .i64 ic]] w (RetV w (.bool false)) := by
  have g0 : decide (rp < 0) = false := decide_eq_false h0
  have g1 : decide (6 < rp) = false := decide_eq_false h1
  have g2 : decide (rg < 1) = false := decide_eq_false h2
  have g3 : decide (5 < rg) = false := decide_eq_false h3
  have g4 : decide (pl < 0) = false := decide_eq_false h4
  go_enter Tryd.func40, Tryd.ntmps40
  go_wp2_with fail
  refine wp_region_calm (by kernel_rfl) (by kernel_rfl) ?_
  repeat (go_big_quiet_step ((go_at_call 55; exact calm_same (rplaces_any _ _))))
  refine wpQuiet_nil ?_
  intro w' hw'
  have hb := BW_get hw'
  clear hw'
  obtain ⟨hc, hf⟩ := bcell hb
  go_wp2_with fail
  go_ret
  exact ⟨rfl, ((Below.refl _ _).alloc (Nat.le_refl _) _).trans (hb.mono (by simp))⟩
set_option maxHeartbeats 4000000 in
theorem rmay_6 (rp rg pl ix ic : Int) (w : World) (h0 : ¬ rp < 0) (h1 : ¬ 6 < rp) (h2 : ¬ rg < 1) (h3 : ¬ 5 < rg) (h4 : ¬ pl < 0) (h5 : ¬ plc rg ≤ pl) (h6 : ¬ 0 ≤ ix) : Calls Tryd.prog 40 #[.agg #[.int .i64 rp, .int .i64 rg, .int .i64 pl, .int .i64 ix, .int .i64 ic]] w (RetV w (.bool false)) := by
  have g0 : decide (rp < 0) = false := decide_eq_false h0
  have g1 : decide (6 < rp) = false := decide_eq_false h1
  have g2 : decide (rg < 1) = false := decide_eq_false h2
  have g3 : decide (5 < rg) = false := decide_eq_false h3
  have g4 : decide (pl < 0) = false := decide_eq_false h4
  have g5 : decide (plc rg ≤ pl) = false := decide_eq_false h5
  have g6 : decide (0 ≤ ix) = false := decide_eq_false h6
  go_enter Tryd.func40, Tryd.ntmps40
  go_wp2_with fail
  refine wp_region_calm (by kernel_rfl) (by kernel_rfl) ?_
  repeat (go_big_quiet_step ((go_at_call 55; exact calm_same (rplaces_any _ _))))
  refine wpQuiet_nil ?_
  intro w' hw'
  have hb := BW_get hw'
  clear hw'
  obtain ⟨hc, hf⟩ := bcell hb
  go_wp2_with fail
  go_ret
  exact ⟨rfl, ((Below.refl _ _).alloc (Nat.le_refl _) _).trans (hb.mono (by simp))⟩
set_option maxHeartbeats 4000000 in
theorem rmay_7 (rp rg pl ix ic : Int) (w : World) (h0 : ¬ rp < 0) (h1 : ¬ 6 < rp) (h2 : ¬ rg < 1) (h3 : ¬ 5 < rg) (h4 : ¬ pl < 0) (h5 : ¬ plc rg ≤ pl) (h6 : 0 ≤ ix) (h7 : ¬ ix ≤ 1099511627776) : Calls Tryd.prog 40 #[.agg #[.int .i64 rp, .int .i64 rg, .int .i64 pl, .int .i64 ix, .int .i64 ic]] w (RetV w (.bool false)) := by
  have g0 : decide (rp < 0) = false := decide_eq_false h0
  have g1 : decide (6 < rp) = false := decide_eq_false h1
  have g2 : decide (rg < 1) = false := decide_eq_false h2
  have g3 : decide (5 < rg) = false := decide_eq_false h3
  have g4 : decide (pl < 0) = false := decide_eq_false h4
  have g5 : decide (plc rg ≤ pl) = false := decide_eq_false h5
  have g7 : decide (ix ≤ 1099511627776) = false := decide_eq_false h7
  go_enter Tryd.func40, Tryd.ntmps40
  go_wp2_with fail
  refine wp_region_calm (by kernel_rfl) (by kernel_rfl) ?_
  repeat (go_big_quiet_step ((go_at_call 55; exact calm_same (rplaces_any _ _))))
  refine wpQuiet_nil ?_
  intro w' hw'
  have hb := BW_get hw'
  clear hw'
  obtain ⟨hc, hf⟩ := bcell hb
  go_wp2_with fail
  go_ret
  exact ⟨rfl, ((Below.refl _ _).alloc (Nat.le_refl _) _).trans (hb.mono (by simp))⟩
set_option maxHeartbeats 4000000 in
theorem rmay_8 (rp rg pl ix ic : Int) (w : World) (h0 : ¬ rp < 0) (h1 : ¬ 6 < rp) (h2 : ¬ rg < 1) (h3 : ¬ 5 < rg) (h4 : ¬ pl < 0) (h5 : ¬ plc rg ≤ pl) (h6 : 0 ≤ ix) (h7 : ix ≤ 1099511627776) (h8 : ¬ 1 ≤ ic) : Calls Tryd.prog 40 #[.agg #[.int .i64 rp, .int .i64 rg, .int .i64 pl, .int .i64 ix, .int .i64 ic]] w (RetV w (.bool false)) := by
  have g0 : decide (rp < 0) = false := decide_eq_false h0
  have g1 : decide (6 < rp) = false := decide_eq_false h1
  have g2 : decide (rg < 1) = false := decide_eq_false h2
  have g3 : decide (5 < rg) = false := decide_eq_false h3
  have g4 : decide (pl < 0) = false := decide_eq_false h4
  have g5 : decide (plc rg ≤ pl) = false := decide_eq_false h5
  have g8 : decide (1 ≤ ic) = false := decide_eq_false h8
  go_enter Tryd.func40, Tryd.ntmps40
  go_wp2_with fail
  refine wp_region_calm (by kernel_rfl) (by kernel_rfl) ?_
  repeat (go_big_quiet_step ((go_at_call 55; exact calm_same (rplaces_any _ _))))
  refine wpQuiet_nil ?_
  intro w' hw'
  have hb := BW_get hw'
  clear hw'
  obtain ⟨hc, hf⟩ := bcell hb
  go_wp2_with fail
  go_ret
  exact ⟨rfl, ((Below.refl _ _).alloc (Nat.le_refl _) _).trans (hb.mono (by simp))⟩
set_option maxHeartbeats 4000000 in
theorem rmay_9 (rp rg pl ix ic : Int) (w : World) (h0 : ¬ rp < 0) (h1 : ¬ 6 < rp) (h2 : ¬ rg < 1) (h3 : ¬ 5 < rg) (h4 : ¬ pl < 0) (h5 : ¬ plc rg ≤ pl) (h6 : 0 ≤ ix) (h7 : ix ≤ 1099511627776) (h8 : 1 ≤ ic) (h9 : ¬ ic ≤ 1099511627776) : Calls Tryd.prog 40 #[.agg #[.int .i64 rp, .int .i64 rg, .int .i64 pl, .int .i64 ix, .int .i64 ic]] w (RetV w (.bool false)) := by
  have g0 : decide (rp < 0) = false := decide_eq_false h0
  have g1 : decide (6 < rp) = false := decide_eq_false h1
  have g2 : decide (rg < 1) = false := decide_eq_false h2
  have g3 : decide (5 < rg) = false := decide_eq_false h3
  have g4 : decide (pl < 0) = false := decide_eq_false h4
  have g5 : decide (plc rg ≤ pl) = false := decide_eq_false h5
  have g9 : decide (ic ≤ 1099511627776) = false := decide_eq_false h9
  go_enter Tryd.func40, Tryd.ntmps40
  go_wp2_with fail
  refine wp_region_calm (by kernel_rfl) (by kernel_rfl) ?_
  repeat (go_big_quiet_step ((go_at_call 55; exact calm_same (rplaces_any _ _))))
  refine wpQuiet_nil ?_
  intro w' hw'
  have hb := BW_get hw'
  clear hw'
  obtain ⟨hc, hf⟩ := bcell hb
  go_wp2_with fail
  go_ret
  exact ⟨rfl, ((Below.refl _ _).alloc (Nat.le_refl _) _).trans (hb.mono (by simp))⟩
set_option maxHeartbeats 4000000 in
theorem rmay_10 (rp rg pl ix ic : Int) (w : World) (h0 : ¬ rp < 0) (h1 : ¬ 6 < rp) (h2 : ¬ rg < 1) (h3 : ¬ 5 < rg) (h4 : ¬ pl < 0) (h5 : ¬ plc rg ≤ pl) (h6 : 0 ≤ ix) (h7 : ix ≤ 1099511627776) (h8 : 1 ≤ ic) (h9 : ic ≤ 1099511627776) : Calls Tryd.prog 40 #[.agg #[.int .i64 rp, .int .i64 rg, .int .i64 pl, .int .i64 ix, .int .i64 ic]] w (RetV w (.bool true)) := by
  have g0 : decide (rp < 0) = false := decide_eq_false h0
  have g1 : decide (6 < rp) = false := decide_eq_false h1
  have g2 : decide (rg < 1) = false := decide_eq_false h2
  have g3 : decide (5 < rg) = false := decide_eq_false h3
  have g4 : decide (pl < 0) = false := decide_eq_false h4
  have g5 : decide (plc rg ≤ pl) = false := decide_eq_false h5
  go_enter Tryd.func40, Tryd.ntmps40
  go_wp2_with fail
  refine wp_region_calm (by kernel_rfl) (by kernel_rfl) ?_
  repeat (go_big_quiet_step ((go_at_call 55; exact calm_same (rplaces_any _ _))))
  refine wpQuiet_nil ?_
  intro w' hw'
  have hb := BW_get hw'
  clear hw'
  obtain ⟨hc, hf⟩ := bcell hb
  go_wp2_with fail
  go_ret
  exact ⟨rfl, ((Below.refl _ _).alloc (Nat.le_refl _) _).trans (hb.mono (by simp))⟩
theorem rmay_any (rp rg pl ix ic : Int) (w : World) : Calls Tryd.prog 40 #[.agg #[.int .i64 rp, .int .i64 rg, .int .i64 pl, .int .i64 ix, .int .i64 ic]] w (RetV w (.bool (mayB rp rg pl ix ic))) := by
  have hp := plc_bd rg
  have hz : rg < 1 ∨ 5 < rg → plc rg = 0 := fun h => Classical.byContradiction fun h0 => by have := hp.2.2.2.2.2 h0; omega
  by_cases h0 : rp < 0
  · rw [show mayB rp rg pl ix ic = false by simp [mayB, inB]; omega]; exact rmay_0 rp rg pl ix ic w h0
  by_cases h1 : 6 < rp
  · rw [show mayB rp rg pl ix ic = false by simp [mayB, inB]; omega]; exact rmay_1 rp rg pl ix ic w h0 h1
  by_cases h2 : rg < 1
  · rw [show mayB rp rg pl ix ic = false by simp [mayB, inB]; omega]; exact rmay_2 rp rg pl ix ic w h0 h1 h2
  by_cases h3 : 5 < rg
  · rw [show mayB rp rg pl ix ic = false by simp [mayB, inB]; omega]; exact rmay_3 rp rg pl ix ic w h0 h1 h2 h3
  by_cases h4 : pl < 0
  · rw [show mayB rp rg pl ix ic = false by simp [mayB, inB]; omega]; exact rmay_4 rp rg pl ix ic w h0 h1 h2 h3 h4
  by_cases h5 : plc rg ≤ pl
  · rw [show mayB rp rg pl ix ic = false by simp [mayB, inB]; omega]; exact rmay_5 rp rg pl ix ic w h0 h1 h2 h3 h4 h5
  by_cases h6 : 0 ≤ ix
  case neg => rw [show mayB rp rg pl ix ic = false by simp [mayB, inB]; omega]; exact rmay_6 rp rg pl ix ic w h0 h1 h2 h3 h4 h5 h6
  by_cases h7 : ix ≤ 1099511627776
  case neg => rw [show mayB rp rg pl ix ic = false by simp [mayB, inB]; omega]; exact rmay_7 rp rg pl ix ic w h0 h1 h2 h3 h4 h5 h6 h7
  by_cases h8 : 1 ≤ ic
  case neg => rw [show mayB rp rg pl ix ic = false by simp [mayB, inB]; omega]; exact rmay_8 rp rg pl ix ic w h0 h1 h2 h3 h4 h5 h6 h7 h8
  by_cases h9 : ic ≤ 1099511627776
  case neg => rw [show mayB rp rg pl ix ic = false by simp [mayB, inB]; omega]; exact rmay_9 rp rg pl ix ic w h0 h1 h2 h3 h4 h5 h6 h7 h8 h9
  rw [show mayB rp rg pl ix ic = true by simp [mayB, inB]; omega]; exact rmay_10 rp rg pl ix ic w h0 h1 h2 h3 h4 h5 h6 h7 h8 h9
end Go.Proofs.YtahfippapknolaaDoor
