/-
  THE WALKS OF tag/place.go, more: Where; the reference's places.
-/
import Derived.Test.YtclnncchbeldcaaTagA
namespace Go.Proofs.Ytclnncchbeldcaa
open Go.RowKit
set_option linter.unusedVariables false

theorem results_tmp4 {fn : Func} {t u v x : Tmp} (h : fn.results = #[.tmp t, .tmp u, .tmp v, .tmp x]) (tmps : Array Value) (P : Program) (w : World) :
    (results fn tmps).run P w = .ok (.tuple #[tmps.getD t undef, tmps.getD u undef, tmps.getD v undef, tmps.getD x undef]) w := by simp [results, h]

/-- the region of a sector; 0: none -/
def whr (s : Int) : Int := if s < 0 ∨ 156 ≤ s then 0 else if s < 2 then 1 else if s < 4 then 2 else if s < 28 then 3 else if s < 124 then 4 else 5
def whp (s : Int) : Int := if whr s = 0 then 0 else (s - srt (whr s)) / wid (whr s)
def whk (s : Int) : Int := if whr s = 0 then 0 else (s - srt (whr s)) % wid (whr s)
def who (s : Int) : Bool := decide (whr s ≠ 0)

def RetW (w : World) (s : Int) : Ending → World → Prop := RetV w (.tuple #[.int .i64 (whr s), .int .i64 (whp s), .int .i64 (whk s), .bool (who s)])

set_option maxHeartbeats 8000000 in
theorem where_any (s : Int) (w : World) (hs : -9223372036854775000 ≤ s) (hs2 : s ≤ 9223372036854775807) : Calls Try.prog 9 #[.int .i64 s] w (RetW w s) := by
  have i0 := idx0
  have i1 := idx1
  have i2 := idx2
  have i3 := idx3
  have i4 := idx4
  have i5 := idx5
  go_enter Try.func9, Try.ntmps9
  go_wp2_with fail
  refine (regions_any _).mono ?_
  unfold regs
  rintro e w1 ⟨rfl, hb⟩
  go_wp2_with fail
  go_loopw [10] (fun i wr => ∃ (m : Int), 0 ≤ m ∧ m ≤ 6 ∧ i = .int .i64 m ∧ Hid (s < 0 ∨ srt m ≤ s) ∧ Below w.heap.size w wr) (fun i _ => 6 - (intOf i).toNat)
  case atStart => exact ⟨0, by omega, by omega, rfl, Lib.hid (by unfold srt; simp; omega), hb⟩
  case round =>
    obtain ⟨m, hm0, hm6, rfl, HJ, hbr⟩ := hrel
    have hz := hbr.size
    by_cases h6 : m = 6
    · have HE : Hid (whr s = 0) := Lib.hid (by
        have h1 := HJ.out
        rw [h6] at h1
        unfold whr
        rw [if_pos (by simp [srt] at h1; omega)])
      subst h6
      have HR : RetW w s = RetV w (.tuple #[.int .i64 0, .int .i64 0, .int .i64 0, .bool false]) := by
        simp [RetW, whp, whk, who, HE.out]
      have HR2 := Lib.hid HR
      clear HR
      go_wp2_with fail
      refine bodyPost_ret (results_tmp4 rfl _ _ _) rfl ?_
      rw [HR2.out]
      exact ⟨rfl, hbr⟩
    · have h5 : m = 0 ∨ m = 1 ∨ m = 2 ∨ m = 3 ∨ m = 4 ∨ m = 5 := by omega
      obtain ⟨T, HT⟩ : ∃ T, Hid (T = srt m) := ⟨_, Lib.hid rfl⟩
      have ht := srt_bd m
      rw [← HT.out] at ht
      obtain ⟨ht0, ht1⟩ := ht
      by_cases hin : T ≤ s ∧ s < T + plc m * wid m
      · have HE : Hid (whr s = m) := Lib.hid (by
          have h1 := HT.out
          clear HT HJ hz
          rcases h5 with rfl | rfl | rfl | rfl | rfl | rfl
          · simp [plc, wid, srt] at hin h1; omega
          · simp [plc, wid, srt] at hin h1; subst h1; unfold whr; rw [if_neg (by omega), if_pos (by omega)]
          · simp [plc, wid, srt] at hin h1; subst h1; unfold whr; rw [if_neg (by omega), if_neg (by omega), if_pos (by omega)]
          · simp [plc, wid, srt] at hin h1; subst h1; unfold whr; rw [if_neg (by omega), if_neg (by omega), if_neg (by omega), if_pos (by omega)]
          · simp [plc, wid, srt] at hin h1; subst h1; unfold whr; rw [if_neg (by omega), if_neg (by omega), if_neg (by omega), if_neg (by omega), if_pos (by omega)]
          · simp [plc, wid, srt] at hin h1; subst h1; unfold whr; rw [if_neg (by omega), if_neg (by omega), if_neg (by omega), if_neg (by omega), if_neg (by omega)])
        have hm1 : m ≠ 0 := by
          rintro rfl
          simp [plc, wid] at hin; omega
        have E2 : Hid (whp s = (s - T) / wid m) := Lib.hid (by unfold whp; rw [HE.out, if_neg hm1, HT.out])
        have E3 : Hid (whk s = (s - T) % wid m) := Lib.hid (by unfold whk; rw [HE.out, if_neg hm1, HT.out])
        have E4 : Hid (who s = true) := Lib.hid (by unfold who; rw [HE.out]; simp [hm1])
        obtain ⟨g1, g2⟩ := hin
        have h7 : m = 1 ∨ m = 2 ∨ m = 3 ∨ m = 4 ∨ m = 5 := by omega
        clear h5 h6 hm1 HJ
        rcases h7 with rfl | rfl | rfl | rfl | rfl <;> clear hm0 hm6
        all_goals
          simp [plc, wid] at g2
          go_wp2_with fail
          refine (start_any _ _).mono ?_
          rw [← HT.out]
          rintro e w3 ⟨rfl, hb3⟩
          have bb3 := bt (hbr.alloc hz _) hb3
          obtain ⟨hc, hf⟩ := bcell hb3
          clear hb3
          go_wp2_with fail
          go_quiet (fail)
          go_wp2_with fail
          refine bodyPost_ret (results_tmp4 rfl _ _ _) rfl ?_
          refine ⟨?_, ⟨bb3.os, bb3.tape, bb3.output, bb3.size, bb3.block⟩⟩
          rw [HE.out, E2.out, E3.out, E4.out]
          simp [wid]
      · have HJ2 : Hid (s < 0 ∨ srt (m + 1) ≤ s) := Lib.hid (by
          have h1 := HJ.out
          rw [srt_next m hm0 (by omega)]
          rw [← HT.out] at h1 ⊢
          omega)
        have hout : s < T ∨ T + plc m * wid m ≤ s := by omega
        clear hin h6 HJ
        rcases h5 with rfl | rfl | rfl | rfl | rfl | rfl <;> clear hm0 hm6
        all_goals
          simp [plc, wid] at hout
          rcases hout with hout | hout
        all_goals
          go_wp2_with fail
          refine (start_any _ _).mono ?_
          rw [← HT.out]
          rintro e w3 ⟨rfl, hb3⟩
          have bb3 := bt (hbr.alloc hz _) hb3
          obtain ⟨hc, hf⟩ := bcell hb3
          clear hb3
          go_wp2_with fail
          go_roundw
          case measure => simp [intOf]
          case rel => exact ⟨_, by decide, by decide, rfl, HJ2, bb3⟩

set_option maxHeartbeats 8000000 in
theorem where_low (s : Int) (w : World) (hs0 : -9223372036854775808 ≤ s) (hs : s < -9223372036854775000) : Calls Try.prog 9 #[.int .i64 s] w (RetW w s) := by
  have i0 := idx0
  have i1 := idx1
  have i2 := idx2
  have i3 := idx3
  have i4 := idx4
  have i5 := idx5
  have HR : RetW w s = RetV w (.tuple #[.int .i64 0, .int .i64 0, .int .i64 0, .bool false]) := by
    have HE : whr s = 0 := by unfold whr; rw [if_pos (by omega)]
    simp [RetW, whp, whk, who, HE]
  rw [HR]
  clear HR
  go_enter Try.func9, Try.ntmps9
  go_wp2_with fail
  refine (regions_any _).mono ?_
  unfold regs
  rintro e w1 ⟨rfl, hb⟩
  go_wp2_with fail
  go_loopw [10] (fun i wr => ∃ (m : Int), 0 ≤ m ∧ m ≤ 6 ∧ i = .int .i64 m ∧ Below w.heap.size w wr) (fun i _ => 6 - (intOf i).toNat)
  case atStart => exact ⟨0, by omega, by omega, rfl, hb⟩
  case round =>
    obtain ⟨m, hm0, hm6, rfl, hbr⟩ := hrel
    have hz := hbr.size
    by_cases h6 : m = 6
    · subst h6
      go_wp2_with fail
      refine bodyPost_ret (results_tmp4 rfl _ _ _) rfl ?_
      exact ⟨rfl, hbr⟩
    · have h5 : m = 0 ∨ m = 1 ∨ m = 2 ∨ m = 3 ∨ m = 4 ∨ m = 5 := by omega
      obtain ⟨T, HT⟩ : ∃ T, Hid (T = srt m) := ⟨_, Lib.hid rfl⟩
      have ht := srt_bd m
      rw [← HT.out] at ht
      obtain ⟨ht0, ht1⟩ := ht
      obtain ⟨a, ha, hab⟩ : ∃ a : Int, wrap64 (s - T) = a ∧ (a < 0 ∨ 1000 < a) := by
        refine ⟨_, rfl, ?_⟩
        unfold wrap64
        omega
      clear h6
      rcases h5 with rfl | rfl | rfl | rfl | rfl | rfl <;> clear hm0 hm6
      all_goals
        rcases hab with hab | hab
      all_goals
        go_wp2_with fail
        refine (start_any _ _).mono ?_
        rw [← HT.out]
        rintro e w3 ⟨rfl, hb3⟩
        have bb3 := bt (hbr.alloc hz _) hb3
        obtain ⟨hc, hf⟩ := bcell hb3
        clear hb3
        go_wp2_with fail
        go_roundw
        case measure => simp [intOf]
        case rel => exact ⟨_, by decide, by decide, rfl, bb3⟩

theorem where_all (s : Int) (w : World) (h0 : -9223372036854775808 ≤ s) (h1 : s ≤ 9223372036854775807) : Calls Try.prog 9 #[.int .i64 s] w (RetW w s) := by
  by_cases h : s < -9223372036854775000
  · exact where_low s w h0 h
  · exact where_any s w (by omega) h1
end Go.Proofs.Ytclnncchbeldcaa
