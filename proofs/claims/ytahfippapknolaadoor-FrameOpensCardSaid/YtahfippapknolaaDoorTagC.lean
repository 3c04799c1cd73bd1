/-
  THE WALKS OF THE REFERENCE's places.
-/
import Derived.Test.YtahfippapknolaaDoorTagB
namespace Go.Proofs.YtahfippapknolaaDoor
open Go.RowKit
set_option linter.unusedVariables false

theorem rplaces_any (n : Int) (w : World) : Calls Tryd.prog 55 #[.int .i64 n] w fun e w' => e = .returned (.int .i64 (plc n)) ∧ w = w' := by
  by_cases h : n = 1 ∨ n = 2 ∨ n = 3 ∨ n = 4 ∨ n = 5
  · rcases h with rfl | rfl | rfl | rfl | rfl
    all_goals
      go_enter Tryd.func55, Tryd.ntmps55
      go_wp2_with fail
      go_ret
      exact ⟨rfl, rfl⟩
  · have e : plc n = 0 := by unfold plc; rw [if_neg (by omega), if_neg (by omega), if_neg (by omega), if_neg (by omega), if_neg (by omega)]
    rw [e]
    clear e
    have h1 : (n == 1) = false := by rw [beq_eq_false_iff_ne]; omega
    have h2 : (n == 2) = false := by rw [beq_eq_false_iff_ne]; omega
    have h3 : (n == 3) = false := by rw [beq_eq_false_iff_ne]; omega
    have h4 : (n == 4) = false := by rw [beq_eq_false_iff_ne]; omega
    have h5 : (n == 5) = false := by rw [beq_eq_false_iff_ne]; omega
    clear h
    go_enter Tryd.func55, Tryd.ntmps55
    go_wp2_with fail
    go_ret
    exact ⟨rfl, rfl⟩

theorem where_eq (r p k s : Int) (h1 : 1 ≤ r) (h2 : r ≤ 5) (h3 : 0 ≤ p) (h4 : p < plc r) (h5 : 0 ≤ k) (h6 : k < wid r) (h7 : s = srt r + p * wid r + k) : whr s = r ∧ whp s = p ∧ whk s = k ∧ who s = true := by
  have hr : whr s = r := by
    have h : r = 1 ∨ r = 2 ∨ r = 3 ∨ r = 4 ∨ r = 5 := by omega
    rcases h with rfl | rfl | rfl | rfl | rfl <;> simp [plc, wid, srt] at h4 h6 h7 <;> unfold whr
    · rw [if_neg (by omega), if_pos (by omega)]
    · rw [if_neg (by omega), if_neg (by omega), if_pos (by omega)]
    · rw [if_neg (by omega), if_neg (by omega), if_neg (by omega), if_pos (by omega)]
    · rw [if_neg (by omega), if_neg (by omega), if_neg (by omega), if_neg (by omega), if_pos (by omega)]
    · rw [if_neg (by omega), if_neg (by omega), if_neg (by omega), if_neg (by omega), if_neg (by omega)]
  have hr0 : whr s ≠ 0 := by rw [hr]; omega
  refine ⟨hr, ?_, ?_, by unfold who; simp [hr0]⟩
  · unfold whp
    rw [if_neg hr0, hr]
    have h : r = 1 ∨ r = 2 ∨ r = 3 ∨ r = 4 ∨ r = 5 := by omega
    rcases h with rfl | rfl | rfl | rfl | rfl <;> simp [plc, wid, srt] at h4 h6 h7 ⊢ <;> omega
  · unfold whk
    rw [if_neg hr0, hr]
    have h : r = 1 ∨ r = 2 ∨ r = 3 ∨ r = 4 ∨ r = 5 := by omega
    rcases h with rfl | rfl | rfl | rfl | rfl <;> simp [plc, wid, srt] at h4 h6 h7 ⊢ <;> omega

end Go.Proofs.YtahfippapknolaaDoor
