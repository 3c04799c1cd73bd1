/-
  THE WALKS OF tag/place.go: regions, of, Places, Wide, start, First, Where, All.
-/
import Derived.Test.YtclnncchbeldcaaSC
import Derived.Test.YtclnncchbeldcaaTagPlain
namespace Go.Proofs.Ytclnncchbeldcaa
open Go.RowKit
set_option linter.unusedVariables false

def regs : Array Value := #[.int .i64 0, .int .i64 0, .int .i64 2, .int .i64 1, .int .i64 2, .int .i64 1, .int .i64 24, .int .i64 1, .int .i64 48, .int .i64 2, .int .i64 16, .int .i64 2]

theorem bcell {W w1 : World} (hb : Below W.heap.size W w1) : (∀ b o, b < W.heap.size → w1.cell? ⟨b, o, none⟩ = W.cell? ⟨b, o, none⟩) ∧ (∀ b o, b < W.heap.size → w1.frozen? ⟨b, o, none⟩ = W.frozen? ⟨b, o, none⟩) :=
  ⟨fun b o h => hb.cell (p := ⟨b, o, none⟩) h, fun b o h => hb.frozen (p := ⟨b, o, none⟩) h⟩

set_option maxHeartbeats 1000000 in
theorem regions_any (w : World) : Calls Try.prog 27 #[] w (RetV w (.agg regs)) := by
  go_enter Try.func27, Try.ntmps27
  go_wp2_with fail
  refine bodyPost_ret (v := .agg regs) ?_ rfl ⟨rfl, ?_⟩
  · unfold regs
    simp [results, Try.results27, go_sem]
  · exact (Below.refl _ _).alloc (Nat.le_refl _) _

theorem of_none {n : Int} (h : n < 0 ∨ 6 ≤ n) : plc n = 0 ∧ wid n = 0 := by
  constructor
  · unfold plc; rw [if_neg (by omega), if_neg (by omega), if_neg (by omega), if_neg (by omega), if_neg (by omega)]
  · unfold wid; rw [if_neg (by omega), if_neg (by omega), if_neg (by omega), if_neg (by omega), if_neg (by omega)]

set_option maxHeartbeats 1000000 in
theorem of_out (n : Int) (w : World) (h : n < 0 ∨ 6 ≤ n) : Calls Try.prog 29 #[.int .i64 n] w (RetV w (.agg #[.int .i64 (plc n), .int .i64 (wid n)])) := by
  rw [(of_none h).1, (of_none h).2]
  rcases h with h | h
  all_goals
    go_enter Try.func29, Try.ntmps29
    go_wp2_with fail
    refine (regions_any _).mono ?_
    unfold regs
    rintro e w1 ⟨rfl, hb⟩
    have hz : w.heap.size < w1.heap.size := by have := hb.size; simp at this; omega
    have hbb : Below w.heap.size w w1 := ((Below.refl _ _).alloc (Nat.le_refl _) _).trans (hb.mono (by simp))
    obtain ⟨hc, hf⟩ := bcell hb
    clear hb
    go_wp2_with fail
    refine bodyPost_ret (v := .agg #[.int .i64 0, .int .i64 0]) ?_ rfl ⟨rfl, ?_⟩
    · simp [results, Try.results29, go_sem, hc, hz]
    · exact (((hbb.setCell (Nat.le_refl _) _).setCell (Nat.le_refl _) _).alloc (by simp; omega) _)

set_option maxHeartbeats 2000000 in
theorem of_in (n : Int) (w : World) (h : 0 ≤ n ∧ n < 6) : Calls Try.prog 29 #[.int .i64 n] w (RetV w (.agg #[.int .i64 (plc n), .int .i64 (wid n)])) := by
  have h6 : n = 0 ∨ n = 1 ∨ n = 2 ∨ n = 3 ∨ n = 4 ∨ n = 5 := by omega
  clear h
  have key : ∀ (m x y : Int), (m = 0 ∧ x = 0 ∧ y = 0) ∨ (m = 1 ∧ x = 2 ∧ y = 1) ∨ (m = 2 ∧ x = 2 ∧ y = 1) ∨ (m = 3 ∧ x = 24 ∧ y = 1) ∨ (m = 4 ∧ x = 48 ∧ y = 2) ∨ (m = 5 ∧ x = 16 ∧ y = 2) → Calls Try.prog 29 #[.int .i64 m] w (RetV w (.agg #[.int .i64 x, .int .i64 y])) := by
    intro m x y hm
    clear h6
    rcases hm with ⟨rfl, rfl, rfl⟩ | ⟨rfl, rfl, rfl⟩ | ⟨rfl, rfl, rfl⟩ | ⟨rfl, rfl, rfl⟩ | ⟨rfl, rfl, rfl⟩ | ⟨rfl, rfl, rfl⟩
    all_goals
      go_enter Try.func29, Try.ntmps29
      go_wp2_with fail
      refine (regions_any _).mono ?_
      unfold regs
      rintro e w1 ⟨rfl, hb⟩
      have hz : w.heap.size < w1.heap.size := by have := hb.size; simp at this; omega
      have hbb : Below w.heap.size w w1 := ((Below.refl _ _).alloc (Nat.le_refl _) _).trans (hb.mono (by simp))
      obtain ⟨hc, hf⟩ := bcell hb
      clear hb
      go_wp2_with fail
      refine bodyPost_ret (v := .agg #[.int .i64 _, .int .i64 _]) ?_ rfl ⟨rfl, ?_⟩
      · simp [results, Try.results29, go_sem, hc, hz]
      · exact (((hbb.setCell (Nat.le_refl _) _).setCell (Nat.le_refl _) _).alloc (by simp; omega) _)
  rcases h6 with rfl | rfl | rfl | rfl | rfl | rfl <;> exact key _ _ _ (by decide)

theorem of_any (n : Int) (w : World) : Calls Try.prog 29 #[.int .i64 n] w (RetV w (.agg #[.int .i64 (plc n), .int .i64 (wid n)])) := by
  by_cases h : 0 ≤ n ∧ n < 6
  · exact of_in n w h
  · exact of_out n w (by omega)

theorem fld0 (a b : Int) (w : World) : (Instr.field 50 (.agg #[.int .i64 a, .int .i64 b]) 0).run Try.prog w = .ok (.int .i64 a) w := by kernel_rfl
theorem fld1 (a b : Int) (w : World) : (Instr.field 50 (.agg #[.int .i64 a, .int .i64 b]) 1).run Try.prog w = .ok (.int .i64 b) w := by kernel_rfl
theorem places_any (n : Int) (w : World) : Calls Try.prog 11 #[.int .i64 n] w (RetV w (.int .i64 (plc n))) := by
  have k0 := fld0
  go_enter Try.func11, Try.ntmps11
  go_wp2_with fail
  refine (of_any n _).mono ?_
  rintro e w1 ⟨rfl, hb⟩
  go_wp2_with fail
  go_ret
  exact ⟨rfl, hb⟩
theorem wide_any (n : Int) (w : World) : Calls Try.prog 13 #[.int .i64 n] w (RetV w (.int .i64 (wid n))) := by
  have k1 := fld1
  go_enter Try.func13, Try.ntmps13
  go_wp2_with fail
  refine (of_any n _).mono ?_
  rintro e w1 ⟨rfl, hb⟩
  go_wp2_with fail
  go_ret
  exact ⟨rfl, hb⟩

theorem idx0 (w : World) : (Instr.index 51 (.agg #[.int .i64 0, .int .i64 0, .int .i64 2, .int .i64 1, .int .i64 2, .int .i64 1, .int .i64 24, .int .i64 1, .int .i64 48, .int .i64 2, .int .i64 16, .int .i64 2]) (.int .i64 0)).run Try.prog w = .ok (.agg #[.int .i64 0, .int .i64 0]) w := by kernel_rfl
theorem idx1 (w : World) : (Instr.index 51 (.agg #[.int .i64 0, .int .i64 0, .int .i64 2, .int .i64 1, .int .i64 2, .int .i64 1, .int .i64 24, .int .i64 1, .int .i64 48, .int .i64 2, .int .i64 16, .int .i64 2]) (.int .i64 1)).run Try.prog w = .ok (.agg #[.int .i64 2, .int .i64 1]) w := by kernel_rfl
theorem idx2 (w : World) : (Instr.index 51 (.agg #[.int .i64 0, .int .i64 0, .int .i64 2, .int .i64 1, .int .i64 2, .int .i64 1, .int .i64 24, .int .i64 1, .int .i64 48, .int .i64 2, .int .i64 16, .int .i64 2]) (.int .i64 2)).run Try.prog w = .ok (.agg #[.int .i64 2, .int .i64 1]) w := by kernel_rfl
theorem idx3 (w : World) : (Instr.index 51 (.agg #[.int .i64 0, .int .i64 0, .int .i64 2, .int .i64 1, .int .i64 2, .int .i64 1, .int .i64 24, .int .i64 1, .int .i64 48, .int .i64 2, .int .i64 16, .int .i64 2]) (.int .i64 3)).run Try.prog w = .ok (.agg #[.int .i64 24, .int .i64 1]) w := by kernel_rfl
theorem idx4 (w : World) : (Instr.index 51 (.agg #[.int .i64 0, .int .i64 0, .int .i64 2, .int .i64 1, .int .i64 2, .int .i64 1, .int .i64 24, .int .i64 1, .int .i64 48, .int .i64 2, .int .i64 16, .int .i64 2]) (.int .i64 4)).run Try.prog w = .ok (.agg #[.int .i64 48, .int .i64 2]) w := by kernel_rfl
theorem idx5 (w : World) : (Instr.index 51 (.agg #[.int .i64 0, .int .i64 0, .int .i64 2, .int .i64 1, .int .i64 2, .int .i64 1, .int .i64 24, .int .i64 1, .int .i64 48, .int .i64 2, .int .i64 16, .int .i64 2]) (.int .i64 5)).run Try.prog w = .ok (.agg #[.int .i64 16, .int .i64 2]) w := by kernel_rfl
theorem srt_next (m : Int) (h0 : 0 ≤ m) (h6 : m < 6) : srt (m + 1) = srt m + plc m * wid m := by
  have h5 : m = 0 ∨ m = 1 ∨ m = 2 ∨ m = 3 ∨ m = 4 ∨ m = 5 := by omega
  rcases h5 with rfl | rfl | rfl | rfl | rfl | rfl <;> rfl
theorem srt_bd (m : Int) : 0 ≤ srt m ∧ srt m ≤ 156 := by
  unfold srt
  split
  · omega
  split
  · omega
  split
  · omega
  split
  · omega
  split
  · omega
  split <;> omega

set_option maxHeartbeats 4000000 in
theorem start_any (n : Int) (w : World) : Calls Try.prog 28 #[.int .i64 n] w (RetV w (.int .i64 (srt n))) := by
  obtain ⟨T, HT⟩ : ∃ T, Hid (T = srt n) := ⟨_, Lib.hid rfl⟩
  rw [← HT.out]
  have i0 := idx0
  have i1 := idx1
  have i2 := idx2
  have i3 := idx3
  have i4 := idx4
  have i5 := idx5
  go_enter Try.func28, Try.ntmps28
  go_wp2_with fail
  refine (regions_any _).mono ?_
  unfold regs
  rintro e w1 ⟨rfl, hb⟩
  go_wp2_with fail
  go_loopw [3, 7] (fun a i wr => ∃ (m x : Int), 0 ≤ m ∧ m ≤ 6 ∧ i = .int .i64 m ∧ a = .int .i64 x ∧ Hid (∀ j : Int, 0 ≤ j → j < m → j ≠ n) ∧ Hid (x = srt m) ∧ 0 ≤ x ∧ x ≤ 156 ∧ Below w.heap.size w wr) (fun _ i _ => 6 - (intOf i).toNat)
  case atStart => exact ⟨0, 0, by omega, by omega, rfl, rfl, Lib.hid (by omega), Lib.hid rfl, by omega, by omega, hb⟩
  case round =>
    obtain ⟨m, x, hm0, hm6, rfl, rfl, HJ, HX, hx0, hx1, hbr⟩ := hrel
    have hz := hbr.size
    by_cases h6 : m = 6
    · have HE : Hid (x = T) := Lib.hid (by
        have h1 := HX.out
        have hj := HJ.out
        rw [h6] at h1 hj
        have a0 := hj 0 (by omega) (by omega)
        have a1 := hj 1 (by omega) (by omega)
        have a2 := hj 2 (by omega) (by omega)
        have a3 := hj 3 (by omega) (by omega)
        have a4 := hj 4 (by omega) (by omega)
        have a5 := hj 5 (by omega) (by omega)
        rw [h1, HT.out]
        unfold srt
        rw [if_neg (by omega), if_neg (by omega), if_neg (by omega), if_neg (by omega), if_neg (by omega), if_neg (by omega)]
        rw [if_neg (by omega), if_neg (by omega), if_neg (by omega), if_neg (by omega), if_neg (by omega), if_neg (by omega)])
      subst h6
      go_wp2_with fail
      go_ret
      exact ⟨ret_int HE.out, hbr⟩
    · have h5 : m = 0 ∨ m = 1 ∨ m = 2 ∨ m = 3 ∨ m = 4 ∨ m = 5 := by omega
      by_cases hn : m = n
      · have HE : Hid (x = T) := Lib.hid (by rw [HX.out, HT.out, hn])
        clear h6 HX HJ
        subst hn
        rcases h5 with rfl | rfl | rfl | rfl | rfl | rfl <;> clear hm0 hm6
        all_goals
          go_wp2_with fail
          go_ret
          exact ⟨ret_int HE.out, hbr.alloc hz _⟩
      · have HJ2 : Hid (∀ j : Int, 0 ≤ j → j < m + 1 → j ≠ n) := Lib.hid (by
          intro j h0 h1
          by_cases hj : j = m
          · rw [hj]; exact hn
          · exact HJ.out j h0 (by omega))
        have hnb : (m == n) = false := by rw [beq_eq_false_iff_ne]; exact hn
        clear hn h6 HJ
        rcases h5 with rfl | rfl | rfl | rfl | rfl | rfl <;> clear hm0 hm6
        all_goals
          go_wp2_with fail
          go_roundw
          case measure => simp [intOf]
          case rel =>
            have h3 := HX.out
            refine ⟨_, _, ?_, ?_, rfl, rfl, HJ2, Lib.hid ?_, ?_, ?_, hbr.alloc hz _⟩
            · decide
            · decide
            · rw [h3]; rfl
            · simp [srt] at h3; omega
            · simp [srt] at h3; omega

def fst (n place : Int) : Int := if plc n = 0 ∨ place < 0 ∨ plc n ≤ place then -1 else srt n + place * wid n

theorem all_any (w : World) : Calls Try.prog 17 #[] w (RetV w (.int .i64 156)) := by
  go_enter Try.func17, Try.ntmps17
  go_wp2_with fail
  refine (start_any (-1) _).mono ?_
  rw [show srt (-1) = 156 from rfl]
  rintro e w1 ⟨rfl, hb⟩
  go_wp2_with fail
  go_ret
  exact ⟨rfl, hb⟩

set_option maxHeartbeats 1000000 in
theorem first_any (n place : Int) (w : World) : Calls Try.prog 15 #[.int .i64 n, .int .i64 place] w (RetV w (.int .i64 (fst n place))) := by
  obtain ⟨b1, b2, b3, b4, b5, b6⟩ := plc_bd n
  obtain ⟨c1, c2⟩ := srt_bd n
  by_cases h0 : plc n = 0
  · have HF : Hid (fst n place = -1) := Lib.hid (by unfold fst; rw [if_pos (.inl h0)])
    have H0 := Lib.hid h0
    have H1 := Lib.hid (b5 h0)
    rw [HF.out]
    clear h0 b1 b2 b3 b4 b5 b6 c1 c2
    go_enter Try.func15, Try.ntmps15
    go_wp2_with fail
    refine (of_any n _).mono ?_
    rw [H0.out, H1.out]
    rintro e w1 ⟨rfl, hb⟩
    go_wp2_with fail
    go_ret
    exact ⟨rfl, hb.alloc hb.size _⟩
  obtain ⟨d1, d2, d3⟩ := b6 h0
  obtain ⟨P, HP⟩ : ∃ P, Hid (P = plc n) := ⟨_, Lib.hid rfl⟩
  obtain ⟨W, HW⟩ : ∃ W, Hid (W = wid n) := ⟨_, Lib.hid rfl⟩
  obtain ⟨T, HT⟩ : ∃ T, Hid (T = srt n) := ⟨_, Lib.hid rfl⟩
  rw [← HP.out] at h0 b1 b2 b5
  rw [← HW.out] at b3 b4 d1
  rw [← HT.out] at c1 c2
  by_cases h1 : place < 0
  · have HF : Hid (fst n place = -1) := Lib.hid (by unfold fst; rw [if_pos (.inr (.inl h1))])
    rw [HF.out]
    clear b5 b6
    go_enter Try.func15, Try.ntmps15
    go_wp2_with fail
    refine (of_any n _).mono ?_
    rw [← HP.out, ← HW.out]
    rintro e w1 ⟨rfl, hb⟩
    go_wp2_with fail
    go_ret
    exact ⟨rfl, hb.alloc hb.size _⟩
  by_cases h2 : P ≤ place
  · have HF : Hid (fst n place = -1) := Lib.hid (by unfold fst; rw [if_pos (.inr (.inr (by rw [← HP.out]; exact h2)))])
    rw [HF.out]
    clear b5 b6
    go_enter Try.func15, Try.ntmps15
    go_wp2_with fail
    refine (of_any n _).mono ?_
    rw [← HP.out, ← HW.out]
    rintro e w1 ⟨rfl, hb⟩
    go_wp2_with fail
    go_ret
    exact ⟨rfl, hb.alloc hb.size _⟩
  · have HF : Hid (fst n place = T + place * W) := Lib.hid (by unfold fst; rw [if_neg (by rw [← HP.out]; omega), ← HT.out, ← HW.out])
    have m0 : 0 ≤ place * W := Int.mul_nonneg (by omega) b3
    have m1 : place * W ≤ 48 * 2 := by
      have := Int.mul_le_mul (show place ≤ 48 by omega) b4 b3 (by omega)
      exact this
    rw [HF.out]
    clear b5 b6
    go_enter Try.func15, Try.ntmps15
    go_wp2_with fail
    refine (of_any n _).mono ?_
    rw [← HP.out, ← HW.out]
    rintro e w1 ⟨rfl, hb⟩
    go_wp2_with fail
    refine (start_any n _).mono ?_
    rw [← HT.out]
    rintro e w2 ⟨rfl, hb2⟩
    have bb2 : Below w.heap.size w w2 := bt (hb.alloc hb.size _) hb2
    go_wp2_with fail
    refine (wide_any n _).mono ?_
    rw [← HW.out]
    rintro e w3 ⟨rfl, hb3⟩
    go_wp2_with fail
    go_ret
    exact ⟨rfl, bt bb2 hb3⟩
end Go.Proofs.Ytclnncchbeldcaa
