/-
  THE WALKS OF tag/place.go: regions, of, Places, Wide, start, First, Where, All.
-/
import Derived.Test.YtahfippapknolaaDoorSC
import Derived.Test.YtahfippapknolaaDoorTagPlain
namespace Go.Proofs.YtahfippapknolaaDoor
open Go.RowKit
set_option linter.unusedVariables false

def regs : Array Value := #[.int .i64 0, .int .i64 0, .int .i64 2, .int .i64 1, .int .i64 2, .int .i64 1, .int .i64 24, .int .i64 1, .int .i64 48, .int .i64 2, .int .i64 16, .int .i64 2]

set_option maxHeartbeats 1000000 in
theorem regions_any (w : World) : Calls Tryd.prog 58 #[] w (RetV w (.agg regs)) := by
  go_enter Tryd.func58, Tryd.ntmps58
  go_wp2_with fail
  refine bodyPost_ret (v := .agg regs) ?_ rfl ⟨rfl, ?_⟩
  · unfold regs
    simp [results, Tryd.results58, go_sem]
  · exact (Below.refl _ _).alloc (Nat.le_refl _) _

theorem of_none {n : Int} (h : n < 0 ∨ 6 ≤ n) : plc n = 0 ∧ wid n = 0 := by
  constructor
  · unfold plc; rw [if_neg (by omega), if_neg (by omega), if_neg (by omega), if_neg (by omega), if_neg (by omega)]
  · unfold wid; rw [if_neg (by omega), if_neg (by omega), if_neg (by omega), if_neg (by omega), if_neg (by omega)]

set_option maxHeartbeats 1000000 in
theorem of_out (n : Int) (w : World) (h : n < 0 ∨ 6 ≤ n) : Calls Tryd.prog 45 #[.int .i64 n] w (RetV w (.agg #[.int .i64 (plc n), .int .i64 (wid n)])) := by
  rw [(of_none h).1, (of_none h).2]
  rcases h with h | h
  all_goals
    go_enter Tryd.func45, Tryd.ntmps45
    go_wp2_with fail
    refine (regions_any _).mono ?_
    unfold regs
    rintro e w1 ⟨rfl, hb⟩
    have hz : w.heap.size < w1.heap.size := by have := hb.size; simp at this; omega
    have hbb : Below w.heap.size w w1 := ((Below.refl _ _).alloc (Nat.le_refl _) _).trans (hb.mono (by simp))
    obtain ⟨hc, hf⟩ := bcell hb
    clear hb
    go_wp2_with fail
    refine bodyPost_ret (v := .agg #[.int .i64 0, .int .i64 0]) ?_ rfl ⟨rfl, ?_⟩
    · simp [results, Tryd.results45, go_sem, hc, hz]
    · exact (((hbb.setCell (Nat.le_refl _) _).setCell (Nat.le_refl _) _).alloc (by simp; omega) _)

set_option maxHeartbeats 2000000 in
theorem of_in (n : Int) (w : World) (h : 0 ≤ n ∧ n < 6) : Calls Tryd.prog 45 #[.int .i64 n] w (RetV w (.agg #[.int .i64 (plc n), .int .i64 (wid n)])) := by
  have h6 : n = 0 ∨ n = 1 ∨ n = 2 ∨ n = 3 ∨ n = 4 ∨ n = 5 := by omega
  clear h
  have key : ∀ (m x y : Int), (m = 0 ∧ x = 0 ∧ y = 0) ∨ (m = 1 ∧ x = 2 ∧ y = 1) ∨ (m = 2 ∧ x = 2 ∧ y = 1) ∨ (m = 3 ∧ x = 24 ∧ y = 1) ∨ (m = 4 ∧ x = 48 ∧ y = 2) ∨ (m = 5 ∧ x = 16 ∧ y = 2) → Calls Tryd.prog 45 #[.int .i64 m] w (RetV w (.agg #[.int .i64 x, .int .i64 y])) := by
    intro m x y hm
    clear h6
    rcases hm with ⟨rfl, rfl, rfl⟩ | ⟨rfl, rfl, rfl⟩ | ⟨rfl, rfl, rfl⟩ | ⟨rfl, rfl, rfl⟩ | ⟨rfl, rfl, rfl⟩ | ⟨rfl, rfl, rfl⟩
    all_goals
      go_enter Tryd.func45, Tryd.ntmps45
      go_wp2_with fail
      refine (regions_any _).mono ?_
      unfold regs
      rintro e w1 ⟨rfl, hb⟩
      have hz : w.heap.size < w1.heap.size := by have := hb.size; simp at this; omega
      have hbb : Below w.heap.size w w1 := ((Below.refl _ _).alloc (Nat.le_refl _) _).trans (hb.mono (by simp))
      obtain ⟨hc, hf⟩ := bcell hb
      clear hb
      go_wp2_with fail
      refine bodyPost_ret (v := .agg #[.int .i64 _, .int .i64 _]) ?_ rfl ⟨rfl, ?_⟩
      · simp [results, Tryd.results45, go_sem, hc, hz]
      · exact (((hbb.setCell (Nat.le_refl _) _).setCell (Nat.le_refl _) _).alloc (by simp; omega) _)
  rcases h6 with rfl | rfl | rfl | rfl | rfl | rfl <;> exact key _ _ _ (by decide)

theorem of_any (n : Int) (w : World) : Calls Tryd.prog 45 #[.int .i64 n] w (RetV w (.agg #[.int .i64 (plc n), .int .i64 (wid n)])) := by
  by_cases h : 0 ≤ n ∧ n < 6
  · exact of_in n w h
  · exact of_out n w (by omega)

theorem fld0 (a b : Int) (w : World) : (Instr.field 74 (.agg #[.int .i64 a, .int .i64 b]) 0).run Tryd.prog w = .ok (.int .i64 a) w := by kernel_rfl
theorem fld1 (a b : Int) (w : World) : (Instr.field 74 (.agg #[.int .i64 a, .int .i64 b]) 1).run Tryd.prog w = .ok (.int .i64 b) w := by kernel_rfl
theorem places_any (n : Int) (w : World) : Calls Tryd.prog 33 #[.int .i64 n] w (RetV w (.int .i64 (plc n))) := by
  have k0 := fld0
  go_enter Tryd.func33, Tryd.ntmps33
  go_wp2_with fail
  refine (of_any n _).mono ?_
  rintro e w1 ⟨rfl, hb⟩
  go_wp2_with fail
  go_ret
  exact ⟨rfl, hb⟩
theorem idx0 (w : World) : (Instr.index 87 (.agg #[.int .i64 0, .int .i64 0, .int .i64 2, .int .i64 1, .int .i64 2, .int .i64 1, .int .i64 24, .int .i64 1, .int .i64 48, .int .i64 2, .int .i64 16, .int .i64 2]) (.int .i64 0)).run Tryd.prog w = .ok (.agg #[.int .i64 0, .int .i64 0]) w := by kernel_rfl
theorem idx1 (w : World) : (Instr.index 87 (.agg #[.int .i64 0, .int .i64 0, .int .i64 2, .int .i64 1, .int .i64 2, .int .i64 1, .int .i64 24, .int .i64 1, .int .i64 48, .int .i64 2, .int .i64 16, .int .i64 2]) (.int .i64 1)).run Tryd.prog w = .ok (.agg #[.int .i64 2, .int .i64 1]) w := by kernel_rfl
theorem idx2 (w : World) : (Instr.index 87 (.agg #[.int .i64 0, .int .i64 0, .int .i64 2, .int .i64 1, .int .i64 2, .int .i64 1, .int .i64 24, .int .i64 1, .int .i64 48, .int .i64 2, .int .i64 16, .int .i64 2]) (.int .i64 2)).run Tryd.prog w = .ok (.agg #[.int .i64 2, .int .i64 1]) w := by kernel_rfl
theorem idx3 (w : World) : (Instr.index 87 (.agg #[.int .i64 0, .int .i64 0, .int .i64 2, .int .i64 1, .int .i64 2, .int .i64 1, .int .i64 24, .int .i64 1, .int .i64 48, .int .i64 2, .int .i64 16, .int .i64 2]) (.int .i64 3)).run Tryd.prog w = .ok (.agg #[.int .i64 24, .int .i64 1]) w := by kernel_rfl
theorem idx4 (w : World) : (Instr.index 87 (.agg #[.int .i64 0, .int .i64 0, .int .i64 2, .int .i64 1, .int .i64 2, .int .i64 1, .int .i64 24, .int .i64 1, .int .i64 48, .int .i64 2, .int .i64 16, .int .i64 2]) (.int .i64 4)).run Tryd.prog w = .ok (.agg #[.int .i64 48, .int .i64 2]) w := by kernel_rfl
theorem idx5 (w : World) : (Instr.index 87 (.agg #[.int .i64 0, .int .i64 0, .int .i64 2, .int .i64 1, .int .i64 2, .int .i64 1, .int .i64 24, .int .i64 1, .int .i64 48, .int .i64 2, .int .i64 16, .int .i64 2]) (.int .i64 5)).run Tryd.prog w = .ok (.agg #[.int .i64 16, .int .i64 2]) w := by kernel_rfl
theorem srt_next (m : Int) (h0 : 0 ≤ m) (h6 : m < 6) : srt (m + 1) = srt m + plc m * wid m := by
  have h5 : m = 0 ∨ m = 1 ∨ m = 2 ∨ m = 3 ∨ m = 4 ∨ m = 5 := by omega
  rcases h5 with rfl | rfl | rfl | rfl | rfl | rfl <;> rfl
theorem srt_bd (m : Int) : 0 ≤ srt m ∧ srt m ≤ 156 := by
  unfold srt
  split
  · omega
  split
  · omega
  split
  · omega
  split
  · omega
  split
  · omega
  split <;> omega

def fst (n place : Int) : Int := if plc n = 0 ∨ place < 0 ∨ plc n ≤ place then -1 else srt n + place * wid n

end Go.Proofs.YtahfippapknolaaDoor
