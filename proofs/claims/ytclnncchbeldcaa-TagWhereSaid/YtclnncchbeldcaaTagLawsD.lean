/-
  THE WALK OF THE LAW TagWhere.
-/
import Derived.Test.YtclnncchbeldcaaTagLawsC
import Derived.Test.YtclnncchbeldcaaTagC
namespace Go.Proofs.Ytclnncchbeldcaa
open Go.RowKit
set_option linter.unusedVariables false

theorem who_eq (s : Int) : who s = (decide (0 ≤ s) && decide (s < 156)) := by
  unfold who whr
  by_cases h0 : s < 0 ∨ 156 ≤ s
  · rw [if_pos h0]
    by_cases h1 : 0 ≤ s
    · simp; omega
    · simp [h1]
  · rw [if_neg h0]
    have h1 : (decide (0 ≤ s) && decide (s < 156)) = true := by simp; omega
    rw [h1]
    split
    · simp
    split
    · simp
    split
    · simp
    split <;> simp
theorem where_at {s : Int} (h0 : 0 ≤ s) (h1 : s < 156) : 0 ≤ whp s ∧ whp s < plc (whr s) ∧ 0 ≤ whk s ∧ whk s < wid (whr s) ∧ fst (whr s) (whp s) + whk s = s := by
  have key : ∀ r : Int, whr s = r → (r = 1 ∨ r = 2 ∨ r = 3 ∨ r = 4 ∨ r = 5) → srt r ≤ s → s < srt r + plc r * wid r → 0 ≤ whp s ∧ whp s < plc (whr s) ∧ 0 ≤ whk s ∧ whk s < wid (whr s) ∧ fst (whr s) (whp s) + whk s = s := by
    intro r hr h5 ha hb
    have hp : whp s = (s - srt r) / wid r := by unfold whp; rw [hr, if_neg (by omega)]
    have hk : whk s = (s - srt r) % wid r := by unfold whk; rw [hr, if_neg (by omega)]
    rw [hr, hp, hk]
    rcases h5 with rfl | rfl | rfl | rfl | rfl <;> simp [srt, plc, wid] at ha hb ⊢ <;> unfold fst <;> simp [srt, plc, wid] <;> omega
  by_cases a : s < 2
  · exact key 1 (by unfold whr; rw [if_neg (by omega), if_pos a]) (by omega) (by simp [srt]; omega) (by simp [srt, plc, wid]; omega)
  by_cases b : s < 4
  · exact key 2 (by unfold whr; rw [if_neg (by omega), if_neg a, if_pos b]) (by omega) (by simp [srt]; omega) (by simp [srt, plc, wid]; omega)
  by_cases c : s < 28
  · exact key 3 (by unfold whr; rw [if_neg (by omega), if_neg a, if_neg b, if_pos c]) (by omega) (by simp [srt]; omega) (by simp [srt, plc, wid]; omega)
  by_cases d : s < 124
  · exact key 4 (by unfold whr; rw [if_neg (by omega), if_neg a, if_neg b, if_neg c, if_pos d]) (by omega) (by simp [srt]; omega) (by simp [srt, plc, wid]; omega)
  · exact key 5 (by unfold whr; rw [if_neg (by omega), if_neg a, if_neg b, if_neg c, if_neg d]) (by omega) (by simp [srt]; omega) (by simp [srt, plc, wid]; omega)
theorem fst_neg {r p : Int} (h : fst r p < 0) : fst r p = -1 ∧ (plc r = 0 ∨ p < 0 ∨ plc r ≤ p) := by
  unfold fst at h ⊢
  by_cases hc : plc r = 0 ∨ p < 0 ∨ plc r ≤ p
  · rw [if_pos hc]; exact ⟨rfl, hc⟩
  · rw [if_neg hc] at h
    have := srt_bd r
    have h2 : 0 ≤ p * wid r := Int.mul_nonneg (by omega) (plc_bd r).2.2.1
    omega
theorem fst_pos {r p : Int} (h : ¬ fst r p < 0) : 1 ≤ r ∧ r ≤ 5 ∧ 0 ≤ p ∧ p < plc r ∧ fst r p = srt r + p * wid r := by
  unfold fst at h ⊢
  by_cases hc : plc r = 0 ∨ p < 0 ∨ plc r ≤ p
  · rw [if_pos hc] at h; omega
  · rw [if_neg hc]
    have := (plc_bd r).2.2.2.2.2 (by omega)
    exact ⟨this.2.1, this.2.2, by omega, by omega, rfl⟩
theorem fst_prev {r p : Int} (h : ¬ fst r p < 0) (hp : 0 < p) : fst r (p - 1) + wid r = fst r p := by
  obtain ⟨h1, h2, h3, h4, h5⟩ := fst_pos h
  rw [h5]
  unfold fst
  rw [if_neg (by omega), Int.sub_mul]
  omega
theorem fst_back {r p : Int} (h : ¬ fst r p < 0) (hp : ¬ 0 < p) (h1 : r ≠ 1) : fst (r - 1) (plc (r - 1) - 1) + wid (r - 1) = fst r p := by
  obtain ⟨g1, g2, g3, g4, g5⟩ := fst_pos h
  obtain rfl : p = 0 := by omega
  have h5 : r = 2 ∨ r = 3 ∨ r = 4 ∨ r = 5 := by omega
  rcases h5 with rfl | rfl | rfl | rfl <;> decide +kernel
theorem fst_first {p : Int} (h : ¬ fst 1 p < 0) (hp : ¬ 0 < p) : fst 1 p = 0 := by
  obtain ⟨g1, g2, g3, g4, g5⟩ := fst_pos h
  obtain rfl : p = 0 := by omega
  decide +kernel

set_option maxHeartbeats 16000000 in
theorem tagWhere_walk (s r p : Int) (w : World) (s0 : -9223372036854775808 ≤ s) (s1 : s ≤ 9223372036854775807) (r0 : -9223372036854775808 ≤ r) (r1 : r ≤ 9223372036854775807) (p0 : -9223372036854775808 ≤ p) (p1 : p ≤ 9223372036854775807) :
    Calls Try.prog 5 #[.int .i64 s, .int .i64 r, .int .i64 p] w (RetV w (.bool true)) := by
  obtain ⟨wr, WR⟩ : ∃ x, Hid (x = whr s) := ⟨_, Lib.hid rfl⟩
  obtain ⟨wp, WP⟩ : ∃ x, Hid (x = whp s) := ⟨_, Lib.hid rfl⟩
  obtain ⟨wk, WK⟩ : ∃ x, Hid (x = whk s) := ⟨_, Lib.hid rfl⟩
  obtain ⟨F, HF⟩ : ∃ x, Hid (x = fst wr wp) := ⟨_, Lib.hid rfl⟩
  obtain ⟨P, HP⟩ : ∃ x, Hid (x = plc wr) := ⟨_, Lib.hid rfl⟩
  obtain ⟨V, HV⟩ : ∃ x, Hid (x = wid wr) := ⟨_, Lib.hid rfl⟩
  obtain ⟨G, HG⟩ : ∃ x, Hid (x = fst r p) := ⟨_, Lib.hid rfl⟩
  by_cases hs : 0 ≤ s ∧ s < 156
  case pos =>
    obtain ⟨g0, g1⟩ := hs
    have HO : Hid (who s = true) := Lib.hid (by rw [who_eq]; simp [g0, g1])
    obtain ⟨q0, q1, q2, q3, q4⟩ := where_at g0 g1
    rw [← WR.out, ← WP.out, ← HP.out] at q1
    rw [← WP.out] at q0
    rw [← WK.out] at q2
    rw [← WK.out, ← WR.out, ← HV.out] at q3
    rw [← WK.out, ← WR.out, ← WP.out, ← HF.out] at q4
    have q5 : (F + wk != s) = false := by rw [bne_eq_false_iff_eq]; exact q4
    have hFb : -1 ≤ F ∧ F ≤ 400 := by
      rw [HV.out] at q3
      have := (plc_bd wr).2.2.2.1
      omega
    obtain ⟨hF1, hF2⟩ := hFb
    have hwk : wk ≤ 2 := by
      rw [HV.out] at q3
      have := (plc_bd wr).2.2.2.1
      omega
    clear q4
    go_enter Try.func5, Try.ntmps5
    go_wp2_with fail
    refine (awake_any _).mono ?_
    rintro e w1 ⟨rfl, hb1⟩
    go_wp2_with fail
    refine (where_all s _ s0 s1).mono ?_
    unfold RetW
    rw [← WR.out, ← WP.out, ← WK.out, HO.out]
    rintro e w2 ⟨rfl, hb2⟩
    go_wp2_with fail
    refine (all_any _).mono ?_
    rintro e w3 ⟨rfl, hb3⟩
    go_wp2_with fail
    refine (places_any _ _).mono ?_
    rw [← HP.out]
    rintro e w4 ⟨rfl, hb4⟩
    go_wp2_with fail
    refine (wide_any _ _).mono ?_
    rw [← HV.out]
    rintro e w5 ⟨rfl, hb5⟩
    go_wp2_with fail
    refine (first_any _ _ _).mono ?_
    rw [← HF.out]
    rintro e w6 ⟨rfl, hb6⟩
    have hbb : Below w.heap.size w w6 := bt (bt (bt (bt (bt hb1 hb2) hb3) hb4) hb5) hb6
    clear hb1 hb2 hb3 hb4 hb5 hb6
    go_wp2_with fail
    clear q0 q1 q2 q3 q5 g0 g1 hF1 hF2 hwk
    by_cases hG : G < 0
    · have HN := Lib.hid (fst_neg (r := r) (p := p) (by rw [← HG.out]; exact hG))
      refine (first_any r p _).mono ?_
      rw [HN.out.1]
      rintro e w7 ⟨rfl, hb7⟩
      by_cases hp : p < 0
      · go_wp2_with fail
        go_ret
        exact ⟨rfl, bt hbb hb7⟩
      · obtain ⟨Q, HQ⟩ : ∃ x, Hid (x = plc r) := ⟨_, Lib.hid rfl⟩
        have hQ : Q ≤ p := by have := HN.out.2; rw [← HQ.out] at this; omega
        go_wp2_with fail
        refine (places_any _ _).mono ?_
        rw [← HQ.out]
        rintro e w8 ⟨rfl, hb8⟩
        go_wp2_with fail
        go_ret
        exact ⟨rfl, bt (bt hbb hb7) hb8⟩
    · have hn : ¬ fst r p < 0 := by rw [← HG.out]; exact hG
      obtain ⟨d1, d2, d3, d4, d5⟩ := fst_pos hn
      obtain ⟨b1, b2, b3, b4, _, b6⟩ := plc_bd r
      have b7 := (b6 (by omega)).1
      obtain ⟨U, HU⟩ : ∃ x, Hid (x = wid r) := ⟨_, Lib.hid rfl⟩
      rw [← HU.out] at b3 b4 b7
      have hGb : G ≤ 400 := by
        rw [HG.out, d5]
        have := srt_bd r
        have h2 : p * wid r ≤ 48 * 2 := Int.mul_le_mul (by omega) (by rw [← HU.out]; exact b4) (by rw [← HU.out]; exact b3) (by omega)
        omega
      have hd3 := d3
      have HD4 := Lib.hid d4
      have HD5 := Lib.hid d5
      have HNN := Lib.hid hn
      clear hn d4 d5 b1 b2 b6
      refine (first_any r p _).mono ?_
      rw [← HG.out]
      rintro e w7 ⟨rfl, hb7⟩
      have hbb7 := bt hbb hb7
      clear hb7
      go_wp2_with fail
      go_loopw [12] (fun i wr => ∃ k : Int, 0 ≤ k ∧ k ≤ U ∧ i = .int .i64 k ∧ Below w.heap.size w wr) (fun i _ => (U - intOf i).toNat)
      case atStart => exact ⟨0, by omega, b3, rfl, hbb7⟩
      case round =>
        obtain ⟨k, hk0, hk1, rfl, hbr⟩ := hrel
        by_cases hk : k < U
        · have HW := Lib.hid (where_eq r p k (G + k) d1 d2 hd3 HD4.out hk0 (by rw [← HU.out]; exact hk) (by rw [HG.out, HD5.out]))
          go_wp2_with fail
          refine (wide_any _ _).mono ?_
          rw [← HU.out]
          rintro e w8 ⟨rfl, hb8⟩
          go_wp2_with fail
          refine (where_all (G + k) _ (by omega) (by omega)).mono ?_
          unfold RetW
          rw [HW.out.1, HW.out.2.1, HW.out.2.2.1, HW.out.2.2.2]
          rintro e w9 ⟨rfl, hb9⟩
          have hbb9 := bt (bt hbr hb8) hb9
          clear hb8 hb9
          go_wp2_with fail
          go_roundw
          case measure => simp [intOf]; omega
          case rel => exact ⟨k + 1, by omega, by omega, rfl, hbb9⟩
        · go_wp2_with fail
          refine (wide_any _ _).mono ?_
          rw [← HU.out]
          rintro e w8 ⟨rfl, hb8⟩
          have hbb8 := bt hbr hb8
          clear hb8
          by_cases hp : 0 < p
          · obtain ⟨X, HX⟩ : ∃ x, Hid (x = fst r (p - 1)) := ⟨_, Lib.hid rfl⟩
            have HE : Hid (X + U = G) := Lib.hid (by rw [HX.out, HU.out, HG.out]; exact fst_prev (by have := HNN.out; omega) hp)
            have hX : X ≤ 400 := by have := HE.out; omega
            have hX0 : -10 ≤ X := by have := HE.out; omega
            have e1 : (X + U == G) = true := by rw [beq_iff_eq]; exact HE.out
            go_wp2_with fail
            refine (first_any _ _ _).mono ?_
            rw [← HX.out]
            rintro e w9 ⟨rfl, hb9⟩
            go_wp2_with fail
            refine (wide_any _ _).mono ?_
            rw [← HU.out]
            rintro e w10 ⟨rfl, hb10⟩
            go_wp2_with fail
            go_ret
            exact ⟨rfl, bt (bt hbb8 hb9) hb10⟩
          · by_cases hr1 : r = 1
            · subst hr1
              have e1 : (G == 0) = true := by rw [beq_iff_eq, HG.out]; exact fst_first (by have := HNN.out; omega) hp
              go_wp2_with fail
              go_ret
              exact ⟨rfl, hbb8⟩
            · have e0 : (r == 1) = false := by rw [beq_eq_false_iff_ne]; exact hr1
              obtain ⟨Y, HY⟩ : ∃ x, Hid (x = plc (r - 1)) := ⟨_, Lib.hid rfl⟩
              obtain ⟨X, HX⟩ : ∃ x, Hid (x = fst (r - 1) (Y - 1)) := ⟨_, Lib.hid rfl⟩
              obtain ⟨Z, HZ⟩ : ∃ x, Hid (x = wid (r - 1)) := ⟨_, Lib.hid rfl⟩
              have hE : X + Z = G := by rw [HX.out, HY.out, HZ.out, HG.out]; exact fst_back (by have := HNN.out; omega) hp hr1
              have hY : 0 ≤ Y ∧ Y ≤ 48 := by rw [HY.out]; have := plc_bd (r - 1); omega
              have hZ : 0 ≤ Z ∧ Z ≤ 2 := by rw [HZ.out]; have := plc_bd (r - 1); omega
              obtain ⟨hY0, hY1⟩ := hY
              obtain ⟨hZ0, hZ1⟩ := hZ
              have hX : X ≤ 400 := by omega
              have hX0 : -10 ≤ X := by omega
              have e1 : (X + Z == G) = true := by rw [beq_iff_eq]; exact hE
              clear hE hr1
              go_wp2_with fail
              refine (places_any _ _).mono ?_
              rw [← HY.out]
              rintro e w9 ⟨rfl, hb9⟩
              go_wp2_with fail
              refine (first_any _ _ _).mono ?_
              rw [← HX.out]
              rintro e w10 ⟨rfl, hb10⟩
              go_wp2_with fail
              refine (wide_any _ _).mono ?_
              rw [← HZ.out]
              rintro e w11 ⟨rfl, hb11⟩
              go_wp2_with fail
              go_ret
              exact ⟨rfl, bt (bt (bt hbb8 hb9) hb10) hb11⟩
  case neg =>
    have HO : Hid (who s = false) := Lib.hid (by rw [who_eq]; simp; omega)
    by_cases g0 : 0 ≤ s
    · have g1 : ¬ s < 156 := by omega
      clear hs
      go_enter Try.func5, Try.ntmps5
      go_wp2_with fail
      refine (awake_any _).mono ?_
      rintro e w1 ⟨rfl, hb1⟩
      go_wp2_with fail
      refine (where_all s _ s0 s1).mono ?_
      unfold RetW
      rw [← WR.out, ← WP.out, ← WK.out, HO.out]
      rintro e w2 ⟨rfl, hb2⟩
      go_wp2_with fail
      refine (all_any _).mono ?_
      rintro e w3 ⟨rfl, hb3⟩
      have hbb : Below w.heap.size w w3 := bt (bt hb1 hb2) hb3
      clear hb1 hb2 hb3
      go_wp2_with fail
      by_cases hG : G < 0
      · have HN := Lib.hid (fst_neg (r := r) (p := p) (by rw [← HG.out]; exact hG))
        refine (first_any r p _).mono ?_
        rw [HN.out.1]
        rintro e w7 ⟨rfl, hb7⟩
        by_cases hp : p < 0
        · go_wp2_with fail
          go_ret
          exact ⟨rfl, bt hbb hb7⟩
        · obtain ⟨Q, HQ⟩ : ∃ x, Hid (x = plc r) := ⟨_, Lib.hid rfl⟩
          have hQ : Q ≤ p := by have := HN.out.2; rw [← HQ.out] at this; omega
          go_wp2_with fail
          refine (places_any _ _).mono ?_
          rw [← HQ.out]
          rintro e w8 ⟨rfl, hb8⟩
          go_wp2_with fail
          go_ret
          exact ⟨rfl, bt (bt hbb hb7) hb8⟩
      · have hn : ¬ fst r p < 0 := by rw [← HG.out]; exact hG
        obtain ⟨d1, d2, d3, d4, d5⟩ := fst_pos hn
        obtain ⟨b1, b2, b3, b4, _, b6⟩ := plc_bd r
        have b7 := (b6 (by omega)).1
        obtain ⟨U, HU⟩ : ∃ x, Hid (x = wid r) := ⟨_, Lib.hid rfl⟩
        rw [← HU.out] at b3 b4 b7
        have hGb : G ≤ 400 := by
          rw [HG.out, d5]
          have := srt_bd r
          have h2 : p * wid r ≤ 48 * 2 := Int.mul_le_mul (by omega) (by rw [← HU.out]; exact b4) (by rw [← HU.out]; exact b3) (by omega)
          omega
        have hd3 := d3
        have HD4 := Lib.hid d4
        have HD5 := Lib.hid d5
        have HNN := Lib.hid hn
        clear hn d4 d5 b1 b2 b6
        refine (first_any r p _).mono ?_
        rw [← HG.out]
        rintro e w7 ⟨rfl, hb7⟩
        have hbb7 := bt hbb hb7
        clear hb7
        go_wp2_with fail
        go_loopw [12] (fun i wr => ∃ k : Int, 0 ≤ k ∧ k ≤ U ∧ i = .int .i64 k ∧ Below w.heap.size w wr) (fun i _ => (U - intOf i).toNat)
        case atStart => exact ⟨0, by omega, b3, rfl, hbb7⟩
        case round =>
          obtain ⟨k, hk0, hk1, rfl, hbr⟩ := hrel
          by_cases hk : k < U
          · have HW := Lib.hid (where_eq r p k (G + k) d1 d2 hd3 HD4.out hk0 (by rw [← HU.out]; exact hk) (by rw [HG.out, HD5.out]))
            go_wp2_with fail
            refine (wide_any _ _).mono ?_
            rw [← HU.out]
            rintro e w8 ⟨rfl, hb8⟩
            go_wp2_with fail
            refine (where_all (G + k) _ (by omega) (by omega)).mono ?_
            unfold RetW
            rw [HW.out.1, HW.out.2.1, HW.out.2.2.1, HW.out.2.2.2]
            rintro e w9 ⟨rfl, hb9⟩
            have hbb9 := bt (bt hbr hb8) hb9
            clear hb8 hb9
            go_wp2_with fail
            go_roundw
            case measure => simp [intOf]; omega
            case rel => exact ⟨k + 1, by omega, by omega, rfl, hbb9⟩
          · go_wp2_with fail
            refine (wide_any _ _).mono ?_
            rw [← HU.out]
            rintro e w8 ⟨rfl, hb8⟩
            have hbb8 := bt hbr hb8
            clear hb8
            by_cases hp : 0 < p
            · obtain ⟨X, HX⟩ : ∃ x, Hid (x = fst r (p - 1)) := ⟨_, Lib.hid rfl⟩
              have HE : Hid (X + U = G) := Lib.hid (by rw [HX.out, HU.out, HG.out]; exact fst_prev (by have := HNN.out; omega) hp)
              have hX : X ≤ 400 := by have := HE.out; omega
              have hX0 : -10 ≤ X := by have := HE.out; omega
              have e1 : (X + U == G) = true := by rw [beq_iff_eq]; exact HE.out
              go_wp2_with fail
              refine (first_any _ _ _).mono ?_
              rw [← HX.out]
              rintro e w9 ⟨rfl, hb9⟩
              go_wp2_with fail
              refine (wide_any _ _).mono ?_
              rw [← HU.out]
              rintro e w10 ⟨rfl, hb10⟩
              go_wp2_with fail
              go_ret
              exact ⟨rfl, bt (bt hbb8 hb9) hb10⟩
            · by_cases hr1 : r = 1
              · subst hr1
                have e1 : (G == 0) = true := by rw [beq_iff_eq, HG.out]; exact fst_first (by have := HNN.out; omega) hp
                go_wp2_with fail
                go_ret
                exact ⟨rfl, hbb8⟩
              · have e0 : (r == 1) = false := by rw [beq_eq_false_iff_ne]; exact hr1
                obtain ⟨Y, HY⟩ : ∃ x, Hid (x = plc (r - 1)) := ⟨_, Lib.hid rfl⟩
                obtain ⟨X, HX⟩ : ∃ x, Hid (x = fst (r - 1) (Y - 1)) := ⟨_, Lib.hid rfl⟩
                obtain ⟨Z, HZ⟩ : ∃ x, Hid (x = wid (r - 1)) := ⟨_, Lib.hid rfl⟩
                have hE : X + Z = G := by rw [HX.out, HY.out, HZ.out, HG.out]; exact fst_back (by have := HNN.out; omega) hp hr1
                have hY : 0 ≤ Y ∧ Y ≤ 48 := by rw [HY.out]; have := plc_bd (r - 1); omega
                have hZ : 0 ≤ Z ∧ Z ≤ 2 := by rw [HZ.out]; have := plc_bd (r - 1); omega
                obtain ⟨hY0, hY1⟩ := hY
                obtain ⟨hZ0, hZ1⟩ := hZ
                have hX : X ≤ 400 := by omega
                have hX0 : -10 ≤ X := by omega
                have e1 : (X + Z == G) = true := by rw [beq_iff_eq]; exact hE
                clear hE hr1
                go_wp2_with fail
                refine (places_any _ _).mono ?_
                rw [← HY.out]
                rintro e w9 ⟨rfl, hb9⟩
                go_wp2_with fail
                refine (first_any _ _ _).mono ?_
                rw [← HX.out]
                rintro e w10 ⟨rfl, hb10⟩
                go_wp2_with fail
                refine (wide_any _ _).mono ?_
                rw [← HZ.out]
                rintro e w11 ⟨rfl, hb11⟩
                go_wp2_with fail
                go_ret
                exact ⟨rfl, bt (bt (bt hbb8 hb9) hb10) hb11⟩
    · clear hs
      go_enter Try.func5, Try.ntmps5
      go_wp2_with fail
      refine (awake_any _).mono ?_
      rintro e w1 ⟨rfl, hb1⟩
      go_wp2_with fail
      refine (where_all s _ s0 s1).mono ?_
      unfold RetW
      rw [← WR.out, ← WP.out, ← WK.out, HO.out]
      rintro e w2 ⟨rfl, hb2⟩
      have hbb : Below w.heap.size w w2 := bt hb1 hb2
      clear hb1 hb2
      go_wp2_with fail
      by_cases hG : G < 0
      · have HN := Lib.hid (fst_neg (r := r) (p := p) (by rw [← HG.out]; exact hG))
        refine (first_any r p _).mono ?_
        rw [HN.out.1]
        rintro e w7 ⟨rfl, hb7⟩
        by_cases hp : p < 0
        · go_wp2_with fail
          go_ret
          exact ⟨rfl, bt hbb hb7⟩
        · obtain ⟨Q, HQ⟩ : ∃ x, Hid (x = plc r) := ⟨_, Lib.hid rfl⟩
          have hQ : Q ≤ p := by have := HN.out.2; rw [← HQ.out] at this; omega
          go_wp2_with fail
          refine (places_any _ _).mono ?_
          rw [← HQ.out]
          rintro e w8 ⟨rfl, hb8⟩
          go_wp2_with fail
          go_ret
          exact ⟨rfl, bt (bt hbb hb7) hb8⟩
      · have hn : ¬ fst r p < 0 := by rw [← HG.out]; exact hG
        obtain ⟨d1, d2, d3, d4, d5⟩ := fst_pos hn
        obtain ⟨b1, b2, b3, b4, _, b6⟩ := plc_bd r
        have b7 := (b6 (by omega)).1
        obtain ⟨U, HU⟩ : ∃ x, Hid (x = wid r) := ⟨_, Lib.hid rfl⟩
        rw [← HU.out] at b3 b4 b7
        have hGb : G ≤ 400 := by
          rw [HG.out, d5]
          have := srt_bd r
          have h2 : p * wid r ≤ 48 * 2 := Int.mul_le_mul (by omega) (by rw [← HU.out]; exact b4) (by rw [← HU.out]; exact b3) (by omega)
          omega
        have hd3 := d3
        have HD4 := Lib.hid d4
        have HD5 := Lib.hid d5
        have HNN := Lib.hid hn
        clear hn d4 d5 b1 b2 b6
        refine (first_any r p _).mono ?_
        rw [← HG.out]
        rintro e w7 ⟨rfl, hb7⟩
        have hbb7 := bt hbb hb7
        clear hb7
        go_wp2_with fail
        go_loopw [12] (fun i wr => ∃ k : Int, 0 ≤ k ∧ k ≤ U ∧ i = .int .i64 k ∧ Below w.heap.size w wr) (fun i _ => (U - intOf i).toNat)
        case atStart => exact ⟨0, by omega, b3, rfl, hbb7⟩
        case round =>
          obtain ⟨k, hk0, hk1, rfl, hbr⟩ := hrel
          by_cases hk : k < U
          · have HW := Lib.hid (where_eq r p k (G + k) d1 d2 hd3 HD4.out hk0 (by rw [← HU.out]; exact hk) (by rw [HG.out, HD5.out]))
            go_wp2_with fail
            refine (wide_any _ _).mono ?_
            rw [← HU.out]
            rintro e w8 ⟨rfl, hb8⟩
            go_wp2_with fail
            refine (where_all (G + k) _ (by omega) (by omega)).mono ?_
            unfold RetW
            rw [HW.out.1, HW.out.2.1, HW.out.2.2.1, HW.out.2.2.2]
            rintro e w9 ⟨rfl, hb9⟩
            have hbb9 := bt (bt hbr hb8) hb9
            clear hb8 hb9
            go_wp2_with fail
            go_roundw
            case measure => simp [intOf]; omega
            case rel => exact ⟨k + 1, by omega, by omega, rfl, hbb9⟩
          · go_wp2_with fail
            refine (wide_any _ _).mono ?_
            rw [← HU.out]
            rintro e w8 ⟨rfl, hb8⟩
            have hbb8 := bt hbr hb8
            clear hb8
            by_cases hp : 0 < p
            · obtain ⟨X, HX⟩ : ∃ x, Hid (x = fst r (p - 1)) := ⟨_, Lib.hid rfl⟩
              have HE : Hid (X + U = G) := Lib.hid (by rw [HX.out, HU.out, HG.out]; exact fst_prev (by have := HNN.out; omega) hp)
              have hX : X ≤ 400 := by have := HE.out; omega
              have hX0 : -10 ≤ X := by have := HE.out; omega
              have e1 : (X + U == G) = true := by rw [beq_iff_eq]; exact HE.out
              go_wp2_with fail
              refine (first_any _ _ _).mono ?_
              rw [← HX.out]
              rintro e w9 ⟨rfl, hb9⟩
              go_wp2_with fail
              refine (wide_any _ _).mono ?_
              rw [← HU.out]
              rintro e w10 ⟨rfl, hb10⟩
              go_wp2_with fail
              go_ret
              exact ⟨rfl, bt (bt hbb8 hb9) hb10⟩
            · by_cases hr1 : r = 1
              · subst hr1
                have e1 : (G == 0) = true := by rw [beq_iff_eq, HG.out]; exact fst_first (by have := HNN.out; omega) hp
                go_wp2_with fail
                go_ret
                exact ⟨rfl, hbb8⟩
              · have e0 : (r == 1) = false := by rw [beq_eq_false_iff_ne]; exact hr1
                obtain ⟨Y, HY⟩ : ∃ x, Hid (x = plc (r - 1)) := ⟨_, Lib.hid rfl⟩
                obtain ⟨X, HX⟩ : ∃ x, Hid (x = fst (r - 1) (Y - 1)) := ⟨_, Lib.hid rfl⟩
                obtain ⟨Z, HZ⟩ : ∃ x, Hid (x = wid (r - 1)) := ⟨_, Lib.hid rfl⟩
                have hE : X + Z = G := by rw [HX.out, HY.out, HZ.out, HG.out]; exact fst_back (by have := HNN.out; omega) hp hr1
                have hY : 0 ≤ Y ∧ Y ≤ 48 := by rw [HY.out]; have := plc_bd (r - 1); omega
                have hZ : 0 ≤ Z ∧ Z ≤ 2 := by rw [HZ.out]; have := plc_bd (r - 1); omega
                obtain ⟨hY0, hY1⟩ := hY
                obtain ⟨hZ0, hZ1⟩ := hZ
                have hX : X ≤ 400 := by omega
                have hX0 : -10 ≤ X := by omega
                have e1 : (X + Z == G) = true := by rw [beq_iff_eq]; exact hE
                clear hE hr1
                go_wp2_with fail
                refine (places_any _ _).mono ?_
                rw [← HY.out]
                rintro e w9 ⟨rfl, hb9⟩
                go_wp2_with fail
                refine (first_any _ _ _).mono ?_
                rw [← HX.out]
                rintro e w10 ⟨rfl, hb10⟩
                go_wp2_with fail
                refine (wide_any _ _).mono ?_
                rw [← HZ.out]
                rintro e w11 ⟨rfl, hb11⟩
                go_wp2_with fail
                go_ret
                exact ⟨rfl, bt (bt (bt hbb8 hb9) hb10) hb11⟩
end Go.Proofs.Ytclnncchbeldcaa
