/-
  THE WALKS OF THE REFERENCE's places.
-/
import Derived.Test.YtclnncchbeldcaaTagB
namespace Go.Proofs.Ytclnncchbeldcaa
open Go.RowKit
set_option linter.unusedVariables false

theorem rplaces_any (n : Int) (w : World) : Calls Try.prog 12 #[.int .i64 n] w fun e w' => e = .returned (.int .i64 (plc n)) ∧ w = w' := by
  by_cases h : n = 1 ∨ n = 2 ∨ n = 3 ∨ n = 4 ∨ n = 5
  · rcases h with rfl | rfl | rfl | rfl | rfl
    all_goals
      go_enter Try.func12, Try.ntmps12
      go_wp2_with fail
      go_ret
      exact ⟨rfl, rfl⟩
  · have e : plc n = 0 := by unfold plc; rw [if_neg (by omega), if_neg (by omega), if_neg (by omega), if_neg (by omega), if_neg (by omega)]
    rw [e]
    clear e
    have h1 : (n == 1) = false := by rw [beq_eq_false_iff_ne]; omega
    have h2 : (n == 2) = false := by rw [beq_eq_false_iff_ne]; omega
    have h3 : (n == 3) = false := by rw [beq_eq_false_iff_ne]; omega
    have h4 : (n == 4) = false := by rw [beq_eq_false_iff_ne]; omega
    have h5 : (n == 5) = false := by rw [beq_eq_false_iff_ne]; omega
    clear h
    go_enter Try.func12, Try.ntmps12
    go_wp2_with fail
    go_ret
    exact ⟨rfl, rfl⟩

theorem rwide_any (n : Int) (w : World) : Calls Try.prog 14 #[.int .i64 n] w fun e w' => e = .returned (.int .i64 (wid n)) ∧ w = w' := by
  by_cases h : n = 1 ∨ n = 2 ∨ n = 3 ∨ n = 4 ∨ n = 5
  · rcases h with rfl | rfl | rfl | rfl | rfl
    all_goals
      go_enter Try.func14, Try.ntmps14
      go_wp2_with fail
      go_ret
      exact ⟨rfl, rfl⟩
  · have e : wid n = 0 := by unfold wid; rw [if_neg (by omega), if_neg (by omega), if_neg (by omega), if_neg (by omega), if_neg (by omega)]
    rw [e]
    clear e
    have h1 : (n == 1) = false := by rw [beq_eq_false_iff_ne]; omega
    have h2 : (n == 2) = false := by rw [beq_eq_false_iff_ne]; omega
    have h3 : (n == 3) = false := by rw [beq_eq_false_iff_ne]; omega
    have h4 : (n == 4) = false := by rw [beq_eq_false_iff_ne]; omega
    have h5 : (n == 5) = false := by rw [beq_eq_false_iff_ne]; omega
    clear h
    go_enter Try.func14, Try.ntmps14
    go_wp2_with fail
    go_ret
    exact ⟨rfl, rfl⟩

set_option maxHeartbeats 1000000 in
theorem rfirst_any (n place : Int) (w : World) : Calls Try.prog 16 #[.int .i64 n, .int .i64 place] w fun e w' => e = .returned (.int .i64 (fst n place)) ∧ w = w' := by
  go_enter Try.func16, Try.ntmps16
  go_wp2_with fail
  go_loop [5, 6] (fun u v => ∃ r a : Int, 1 ≤ r ∧ r ≤ 6 ∧ v = .int .i64 r ∧ u = .int .i64 a ∧ 0 ≤ a ∧ a ≤ 156 ∧ Hid (a = srt r) ∧ Hid (∀ q : Int, 1 ≤ q → q < r → ¬ (q = n ∧ 0 ≤ place ∧ place < plc q))) (fun _ v => (6 - intOf v).toNat)
  case atStart => exact ⟨1, 0, by omega, by omega, rfl, rfl, by omega, by omega, Lib.hid rfl, Lib.hid (by omega)⟩
  case round =>
    obtain ⟨r, a, hr1, hr6, rfl, rfl, ha0, ha1, HA, HN⟩ := hrel
    by_cases h6 : r = 6
    · have HE : Hid (fst n place = -1) := Lib.hid (by
        have hN := HN.out
        rw [h6] at hN
        unfold fst
        rw [if_pos]
        by_cases h0 : plc n = 0
        · exact .inl h0
        · have hb := (plc_bd n).2.2.2.2.2 h0
          have h3 := hN n hb.2.1 (by omega)
          omega)
      subst h6
      go_wp2_with fail
      go_ret
      exact ⟨ret_int HE.out.symm, rfl⟩
    · have hr5 : r ≤ 5 := by omega
      obtain ⟨b1, b2, b3, b4, _, _⟩ := plc_bd r
      have HS := Lib.hid (srt_next r (by omega) (by omega))
      have hsb := srt_bd (r + 1)
      rw [HS.out] at hsb
      obtain ⟨P, HP⟩ : ∃ P, Hid (P = plc r) := ⟨_, Lib.hid rfl⟩
      obtain ⟨W, HW⟩ : ∃ W, Hid (W = wid r) := ⟨_, Lib.hid rfl⟩
      rw [← HP.out] at b1 b2 hsb
      rw [← HW.out] at b3 b4 hsb
      rw [← HA.out] at hsb
      have HSB := Lib.hid hsb
      clear hsb h6
      go_wp2_with fail
      go_loop [5, 7] (fun u v => ∃ p c : Int, 0 ≤ p ∧ p ≤ P ∧ v = .int .i64 p ∧ u = .int .i64 c ∧ 0 ≤ c ∧ c ≤ 400 ∧ Hid (c = a + p * W) ∧ Hid (∀ q : Int, 0 ≤ q → q < p → ¬ (r = n ∧ q = place))) (fun _ v => (P - intOf v).toNat)
      case atStart => exact ⟨0, a, by omega, b1, rfl, rfl, by omega, by omega, Lib.hid (by omega), Lib.hid (by omega)⟩
      case round =>
        obtain ⟨p, c, hp0, hp1, rfl, rfl, hc0, hc1, HC, HM⟩ := hrel
        by_cases hlt : p < P
        · have m0 : 0 ≤ (p + 1) * W := Int.mul_nonneg (by omega) b3
          have m1 : (p + 1) * W ≤ 48 * 2 := Int.mul_le_mul (show p + 1 ≤ 48 by omega) b4 b3 (by omega)
          have hcW : c + W = a + (p + 1) * W := by rw [HC.out, Int.add_mul, Int.one_mul]; omega
          have HCW := Lib.hid hcW
          have hc2 : c + W ≤ 400 := by omega
          clear m0 m1 hcW
          by_cases hrn : r = n
          · by_cases hpp : p = place
            · have HE : Hid (fst n place = c) := Lib.hid (by
                unfold fst
                rw [← hrn, ← hpp, ← HP.out, ← HW.out, ← HA.out, if_neg (by omega), HC.out])
              have e1 : (r == n) = true := by rw [beq_iff_eq]; exact hrn
              have e2 : (p == place) = true := by rw [beq_iff_eq]; exact hpp
              clear hrn hpp
              go_wp2_with fail
              refine (rplaces_any _ _).mono ?_
              rw [← HP.out]
              rintro e w1 ⟨rfl, rfl⟩
              go_wp2_with fail
              go_ret
              exact ⟨ret_int HE.out.symm, rfl⟩
            · have e1 : (r == n) = true := by rw [beq_iff_eq]; exact hrn
              have e2 : (p == place) = false := by rw [beq_eq_false_iff_ne]; exact hpp
              have HM2 : Hid (∀ q : Int, 0 ≤ q → q < p + 1 → ¬ (r = n ∧ q = place)) := Lib.hid (by
                intro q h0 h1
                by_cases hq : q = p
                · rw [hq]; exact fun h => hpp h.2
                · exact HM.out q h0 (by omega))
              clear hrn hpp
              go_wp2_with fail
              refine (rplaces_any _ _).mono ?_
              rw [← HP.out]
              rintro e w1 ⟨rfl, rfl⟩
              go_wp2_with fail
              refine (rwide_any _ _).mono ?_
              rw [← HW.out]
              rintro e w1 ⟨rfl, rfl⟩
              go_wp2_with fail
              go_round
              case measure => simp [intOf]; omega
              case rel => exact ⟨p + 1, c + W, by omega, by omega, rfl, rfl, by omega, hc2, HCW, HM2⟩
          · have e1 : (r == n) = false := by rw [beq_eq_false_iff_ne]; exact hrn
            have HM2 : Hid (∀ q : Int, 0 ≤ q → q < p + 1 → ¬ (r = n ∧ q = place)) := Lib.hid (by
              intro q h0 h1 h
              exact hrn h.1)
            clear hrn
            go_wp2_with fail
            refine (rplaces_any _ _).mono ?_
            rw [← HP.out]
            rintro e w1 ⟨rfl, rfl⟩
            go_wp2_with fail
            refine (rwide_any _ _).mono ?_
            rw [← HW.out]
            rintro e w1 ⟨rfl, rfl⟩
            go_wp2_with fail
            go_round
            case measure => simp [intOf]; omega
            case rel => exact ⟨p + 1, c + W, by omega, by omega, rfl, rfl, by omega, hc2, HCW, HM2⟩
        · have hpP : p = P := by omega
          have HN2 : Hid (∀ q : Int, 1 ≤ q → q < r + 1 → ¬ (q = n ∧ 0 ≤ place ∧ place < plc q)) := Lib.hid (by
            intro q h0 h1
            by_cases hq : q = r
            · rw [hq]
              rintro ⟨h3, h4, h5⟩
              exact HM.out place h4 (by rw [hpP, HP.out]; exact h5) ⟨h3, rfl⟩
            · exact HN.out q h0 (by omega))
          have HA2 : Hid (c = srt (r + 1)) := Lib.hid (by rw [HS.out, HC.out, hpP, HA.out, HP.out, HW.out])
          have hcb : 0 ≤ c ∧ c ≤ 156 := by rw [HC.out, hpP]; exact HSB.out
          obtain ⟨hcb1, hcb2⟩ := hcb
          clear hpP
          go_wp2_with fail
          refine (rplaces_any _ _).mono ?_
          rw [← HP.out]
          rintro e w1 ⟨rfl, rfl⟩
          go_wp2_with fail
          go_round
          case measure => simp [intOf]; omega
          case rel => exact ⟨r + 1, c, by omega, by omega, rfl, rfl, hcb1, hcb2, HA2, HN2⟩

theorem where_eq (r p k s : Int) (h1 : 1 ≤ r) (h2 : r ≤ 5) (h3 : 0 ≤ p) (h4 : p < plc r) (h5 : 0 ≤ k) (h6 : k < wid r) (h7 : s = srt r + p * wid r + k) : whr s = r ∧ whp s = p ∧ whk s = k ∧ who s = true := by
  have hr : whr s = r := by
    have h : r = 1 ∨ r = 2 ∨ r = 3 ∨ r = 4 ∨ r = 5 := by omega
    rcases h with rfl | rfl | rfl | rfl | rfl <;> simp [plc, wid, srt] at h4 h6 h7 <;> unfold whr
    · rw [if_neg (by omega), if_pos (by omega)]
    · rw [if_neg (by omega), if_neg (by omega), if_pos (by omega)]
    · rw [if_neg (by omega), if_neg (by omega), if_neg (by omega), if_pos (by omega)]
    · rw [if_neg (by omega), if_neg (by omega), if_neg (by omega), if_neg (by omega), if_pos (by omega)]
    · rw [if_neg (by omega), if_neg (by omega), if_neg (by omega), if_neg (by omega), if_neg (by omega)]
  have hr0 : whr s ≠ 0 := by rw [hr]; omega
  refine ⟨hr, ?_, ?_, by unfold who; simp [hr0]⟩
  · unfold whp
    rw [if_neg hr0, hr]
    have h : r = 1 ∨ r = 2 ∨ r = 3 ∨ r = 4 ∨ r = 5 := by omega
    rcases h with rfl | rfl | rfl | rfl | rfl <;> simp [plc, wid, srt] at h4 h6 h7 ⊢ <;> omega
  · unfold whk
    rw [if_neg hr0, hr]
    have h : r = 1 ∨ r = 2 ∨ r = 3 ∨ r = 4 ∨ r = 5 := by omega
    rcases h with rfl | rfl | rfl | rfl | rfl <;> simp [plc, wid, srt] at h4 h6 h7 ⊢ <;> omega

set_option maxHeartbeats 2000000 in
theorem rwhere_any (s : Int) (w : World) : Calls Try.prog 10 #[.int .i64 s] w fun e w' => e = .returned (.tuple #[.int .i64 (whr s), .int .i64 (whp s), .int .i64 (whk s), .bool (who s)]) ∧ w = w' := by
  go_enter Try.func10, Try.ntmps10
  go_wp2_with fail
  go_loop [6] (fun v => ∃ r : Int, 1 ≤ r ∧ r ≤ 6 ∧ v = .int .i64 r ∧ Hid (s < 0 ∨ srt r ≤ s)) (fun v => (6 - intOf v).toNat)
  case atStart => exact ⟨1, by omega, by omega, rfl, Lib.hid (by simp [srt]; omega)⟩
  case round =>
    obtain ⟨r, hr1, hr6, rfl, HN⟩ := hrel
    by_cases h6 : r = 6
    · have HE : Hid (whr s = 0 ∧ whp s = 0 ∧ whk s = 0 ∧ who s = false) := Lib.hid (by
        have hN := HN.out
        rw [h6] at hN
        have h0 : whr s = 0 := by unfold whr; rw [if_pos (by simp [srt] at hN; omega)]
        simp [whp, whk, who, h0])
      subst h6
      go_wp2_with fail
      refine bodyPost_ret (results_tmp4 rfl _ _ _) rfl ?_
      exact ⟨by rw [HE.out.1, HE.out.2.1, HE.out.2.2.1, HE.out.2.2.2]; rfl, rfl⟩
    · have hr5 : r ≤ 5 := by omega
      obtain ⟨b1, b2, b3, b4, _, b6⟩ := plc_bd r
      have HS := Lib.hid (srt_next r (by omega) (by omega))
      have hsb := srt_bd r
      obtain ⟨P, HP⟩ : ∃ P, Hid (P = plc r) := ⟨_, Lib.hid rfl⟩
      obtain ⟨W, HW⟩ : ∃ W, Hid (W = wid r) := ⟨_, Lib.hid rfl⟩
      obtain ⟨T, HT⟩ : ∃ T, Hid (T = srt r) := ⟨_, Lib.hid rfl⟩
      rw [← HP.out] at b1 b2
      rw [← HW.out] at b3 b4
      rw [← HT.out] at hsb
      obtain ⟨hs0, hs1⟩ := hsb
      clear h6 b6
      go_wp2_with fail
      go_loop [7] (fun v => ∃ p : Int, 0 ≤ p ∧ p ≤ P ∧ v = .int .i64 p ∧ Hid (s < 0 ∨ T + p * W ≤ s)) (fun v => (P - intOf v).toNat)
      case atStart => exact ⟨0, by omega, b1, rfl, Lib.hid (by have := HN.out; rw [← HT.out] at this; omega)⟩
      case round =>
        obtain ⟨p, hp0, hp1, rfl, HM⟩ := hrel
        by_cases hlt : p < P
        · have m0 : 0 ≤ p * W := Int.mul_nonneg (by omega) b3
          have m1 : p * W ≤ 48 * 2 := Int.mul_le_mul (show p ≤ 48 by omega) b4 b3 (by omega)
          obtain ⟨F, HF⟩ : ∃ F, Hid (F = T + p * W) := ⟨_, Lib.hid rfl⟩
          have HFF : Hid (fst r p = F) := Lib.hid (by
            unfold fst
            rw [← HP.out, ← HT.out, ← HW.out, if_neg (by omega), HF.out])
          have hF0 : 0 ≤ F := by rw [HF.out]; omega
          have hF1 : F ≤ 300 := by rw [HF.out]; omega
          clear m0 m1
          go_wp2_with fail
          refine (rplaces_any _ _).mono ?_
          rw [← HP.out]
          rintro e w1 ⟨rfl, rfl⟩
          go_wp2_with fail
          refine (rfirst_any _ _ _).mono ?_
          rw [HFF.out]
          rintro e w1 ⟨rfl, rfl⟩
          go_wp2_with fail
          go_loop [9] (fun v => ∃ k : Int, 0 ≤ k ∧ k ≤ W ∧ v = .int .i64 k ∧ Hid (s < 0 ∨ F + k ≤ s)) (fun v => (W - intOf v).toNat)
          case atStart => exact ⟨0, by omega, b3, rfl, Lib.hid (by have := HM.out; rw [← HF.out] at this; omega)⟩
          case round =>
            obtain ⟨k, hk0, hk1, rfl, HK⟩ := hrel
            by_cases hkW : k < W
            · by_cases hsk : s = F + k
              · have HE := Lib.hid (where_eq r p k s hr1 hr5 hp0 (by rw [← HP.out]; exact hlt) hk0 (by rw [← HW.out]; exact hkW) (by rw [hsk, HF.out, HT.out, HW.out]))
                have e1 : (s == F + k) = true := by rw [beq_iff_eq]; exact hsk
                clear hsk
                go_wp2_with fail
                refine (rwide_any _ _).mono ?_
                rw [← HW.out]
                rintro e w1 ⟨rfl, rfl⟩
                go_wp2_with fail
                refine bodyPost_ret (results_tmp4 rfl _ _ _) rfl ?_
                exact ⟨by rw [HE.out.1, HE.out.2.1, HE.out.2.2.1, HE.out.2.2.2]; rfl, rfl⟩
              · have e1 : (s == F + k) = false := by rw [beq_eq_false_iff_ne]; exact hsk
                have HK2 : Hid (s < 0 ∨ F + (k + 1) ≤ s) := Lib.hid (by have := HK.out; omega)
                clear hsk
                go_wp2_with fail
                refine (rwide_any _ _).mono ?_
                rw [← HW.out]
                rintro e w1 ⟨rfl, rfl⟩
                go_wp2_with fail
                go_round
                case measure => simp [intOf]; omega
                case rel => exact ⟨k + 1, by omega, by omega, rfl, HK2⟩
            · have HM2 : Hid (s < 0 ∨ T + (p + 1) * W ≤ s) := Lib.hid (by
                have h1 := HK.out
                have h2 : k = W := by omega
                rw [h2, HF.out] at h1
                rw [Int.add_mul, Int.one_mul]
                omega)
              go_wp2_with fail
              refine (rwide_any _ _).mono ?_
              rw [← HW.out]
              rintro e w1 ⟨rfl, rfl⟩
              go_wp2_with fail
              go_round
              case measure => simp [intOf]; omega
              case rel => exact ⟨p + 1, by omega, by omega, rfl, HM2⟩
        · have HN2 : Hid (s < 0 ∨ srt (r + 1) ≤ s) := Lib.hid (by
            have h1 := HM.out
            have h2 : p = P := by omega
            rw [HS.out, ← HT.out, ← HP.out, ← HW.out, ← h2]
            exact h1)
          go_wp2_with fail
          refine (rplaces_any _ _).mono ?_
          rw [← HP.out]
          rintro e w1 ⟨rfl, rfl⟩
          go_wp2_with fail
          go_round
          case measure => simp [intOf]; omega
          case rel => exact ⟨r + 1, by omega, by omega, rfl, HN2⟩
end Go.Proofs.Ytclnncchbeldcaa
