/-
  THE WALKS OF Peer, the program's and the reference's.
-/
import Derived.Test.YtfkcbnndmheijaaRet
namespace Go.Proofs.Ytfkcbnndmheijaa
open Go.RowKit
set_option linter.unusedVariables false

/-- may there be a peer? -/
def peerB (n id t : Int) : Bool := decide (2 ≤ n) && (decide (n ≤ 7) && (decide (0 ≤ id) && (decide (id < n) && decide (0 ≤ t))))
def peerI (n id t : Int) : Int := if peerB n id t then (id + 1 + t % (n - 1)) % n else -1
theorem peerB_true {n id t : Int} (h : peerB n id t = true) : 2 ≤ n ∧ n ≤ 7 ∧ 0 ≤ id ∧ id < n ∧ 0 ≤ t := by simpa [peerB] using h
theorem peerB_mk {n id t : Int} (h1 : 2 ≤ n) (h2 : n ≤ 7) (h3 : 0 ≤ id) (h4 : id < n) (h5 : 0 ≤ t) : peerB n id t = true := by simp [peerB, *]
theorem peerI_no {n id t : Int} (h : peerB n id t = false) : peerI n id t = -1 := by simp [peerI, h]
theorem peerI_bd {n id t : Int} (h : peerB n id t = true) : 0 ≤ peerI n id t ∧ peerI n id t < n := by
  obtain ⟨h1, _⟩ := peerB_true h
  unfold peerI
  rw [h, if_pos rfl]
  exact ⟨Int.emod_nonneg _ (by omega), Int.emod_lt_of_pos _ (by omega)⟩
theorem peerI_neg {n id t : Int} : peerI n id t < 0 ↔ peerB n id t = false := by
  cases h : peerB n id t
  · simp [peerI_no h]
  · have := peerI_bd h
    simp; omega

theorem peer_no_1 (n id t : Int) (w : World) (h : n < 2) : Calls Try.prog 9 #[.int .i64 n, .int .i64 id, .int .i64 t] w fun e w' => e = .returned (.int .i64 (-1)) ∧ w = w' := by
  go_enter Try.func9, Try.ntmps9
  go_wp2_with fail
  go_ret
  exact ⟨rfl, rfl⟩
theorem peer_no_2 (n id t : Int) (w : World) (h0 : decide (n < 2) = false) (h : 7 < n) : Calls Try.prog 9 #[.int .i64 n, .int .i64 id, .int .i64 t] w fun e w' => e = .returned (.int .i64 (-1)) ∧ w = w' := by
  go_enter Try.func9, Try.ntmps9
  go_wp2_with fail
  go_ret
  exact ⟨rfl, rfl⟩
theorem peer_no_3 (n id t : Int) (w : World) (h0 : decide (n < 2) = false) (h1 : decide (7 < n) = false) (h : id < 0) : Calls Try.prog 9 #[.int .i64 n, .int .i64 id, .int .i64 t] w fun e w' => e = .returned (.int .i64 (-1)) ∧ w = w' := by
  go_enter Try.func9, Try.ntmps9
  go_wp2_with fail
  go_ret
  exact ⟨rfl, rfl⟩
theorem peer_no_4 (n id t : Int) (w : World) (h0 : decide (n < 2) = false) (h1 : decide (7 < n) = false) (h2 : decide (id < 0) = false) (h : n ≤ id) : Calls Try.prog 9 #[.int .i64 n, .int .i64 id, .int .i64 t] w fun e w' => e = .returned (.int .i64 (-1)) ∧ w = w' := by
  go_enter Try.func9, Try.ntmps9
  go_wp2_with fail
  go_ret
  exact ⟨rfl, rfl⟩
theorem peer_no_5 (n id t : Int) (w : World) (h0 : decide (n < 2) = false) (h1 : decide (7 < n) = false) (h2 : decide (id < 0) = false) (h3 : decide (n ≤ id) = false) (h : t < 0) : Calls Try.prog 9 #[.int .i64 n, .int .i64 id, .int .i64 t] w fun e w' => e = .returned (.int .i64 (-1)) ∧ w = w' := by
  go_enter Try.func9, Try.ntmps9
  go_wp2_with fail
  go_ret
  exact ⟨rfl, rfl⟩
theorem peer_yes (n id t : Int) (w : World) (h1 : 2 ≤ n) (h2 : n ≤ 7) (h3 : 0 ≤ id) (h4 : id < n) (h5 : 0 ≤ t) (h6 : t ≤ 9223372036854775807) : Calls Try.prog 9 #[.int .i64 n, .int .i64 id, .int .i64 t] w fun e w' => e = .returned (.int .i64 ((id + 1 + t % (n - 1)) % n)) ∧ w = w' := by
  have g0 : decide (n < 2) = false := decide_eq_false (by omega)
  have g1 : decide (7 < n) = false := decide_eq_false (by omega)
  have g2 : decide (id < 0) = false := decide_eq_false (by omega)
  have g3 : decide (n ≤ id) = false := decide_eq_false (by omega)
  have g4 : decide (t < 0) = false := decide_eq_false (by omega)
  have hq0 := Int.emod_nonneg t (show n - 1 ≠ 0 by omega)
  have hq1 := Int.emod_lt_of_pos t (show 0 < n - 1 by omega)
  have hn1 : 1 ≤ n - 1 := by omega
  go_enter Try.func9, Try.ntmps9
  go_wp2_with fail
  go_ret
  exact ⟨rfl, rfl⟩
theorem peer_any (n id t : Int) (w : World) (h6 : t ≤ 9223372036854775807) : Calls Try.prog 9 #[.int .i64 n, .int .i64 id, .int .i64 t] w fun e w' => e = .returned (.int .i64 (peerI n id t)) ∧ w = w' := by
  by_cases h1 : n < 2
  · rw [peerI_no (by simp [peerB]; omega)]; exact peer_no_1 n id t w h1
  have g1 : decide (n < 2) = false := decide_eq_false h1
  by_cases h2 : 7 < n
  · rw [peerI_no (by simp [peerB]; omega)]; exact peer_no_2 n id t w g1 h2
  have g2 : decide (7 < n) = false := decide_eq_false h2
  by_cases h3 : id < 0
  · rw [peerI_no (by simp [peerB]; omega)]; exact peer_no_3 n id t w g1 g2 h3
  have g3 : decide (id < 0) = false := decide_eq_false h3
  by_cases h4 : n ≤ id
  · rw [peerI_no (by simp [peerB]; omega)]; exact peer_no_4 n id t w g1 g2 g3 h4
  have g4 : decide (n ≤ id) = false := decide_eq_false h4
  by_cases h5 : t < 0
  · rw [peerI_no (by simp [peerB]; omega)]; exact peer_no_5 n id t w g1 g2 g3 g4 h5
  unfold peerI
  rw [peerB_mk (by omega) (by omega) (by omega) (by omega) (by omega), if_pos rfl]
  exact peer_yes n id t w (by omega) (by omega) (by omega) (by omega) (by omega) h6

theorem rpeer_yes (n id t : Int) (w : World) (h1 : 2 ≤ n) (h2 : n ≤ 7) (h3 : 0 ≤ id) (h4 : id < n) (h5 : 0 ≤ t) (h6 : t ≤ 9223372036854775807) : Calls Try.prog 10 #[.int .i64 n, .int .i64 id, .int .i64 t] w fun e w' => e = .returned (.int .i64 ((id + 1 + t % (n - 1)) % n)) ∧ w = w' := by
  have g0 : decide (n < 2) = false := decide_eq_false (by omega)
  have g1 : decide (7 < n) = false := decide_eq_false (by omega)
  have g2 : decide (id < 0) = false := decide_eq_false (by omega)
  have g3 : decide (n ≤ id) = false := decide_eq_false (by omega)
  have g4 : decide (t < 0) = false := decide_eq_false (by omega)
  have hq0 := Int.emod_nonneg t (show n - 1 ≠ 0 by omega)
  have hq1 := Int.emod_lt_of_pos t (show 0 < n - 1 by omega)
  have hn1 : 1 ≤ n - 1 := by omega
  obtain ⟨q, hq, hq5⟩ : ∃ q : Nat, t % (n - 1) = (q : Int) ∧ q ≤ 5 := ⟨(t % (n - 1)).toNat, by omega, by omega⟩
  have HQ := Lib.hid hq
  clear hq0 hq1
  rw [hq]
  go_enter Try.func10, Try.ntmps10
  go_wp2_with fail
  go_loop [7, 8] (fun p i => ∃ (k : Nat) (v : Int), k ≤ q + 1 ∧ 0 ≤ v ∧ v < n ∧ i = .int .i64 k ∧ p = .int .i64 v ∧ Hid (v = (id + k) % n)) (fun _ i => q + 1 - (intOf i).toNat)
  case atStart => exact ⟨0, id, by omega, h3, h4, rfl, rfl, Lib.hid (by rw [Int.emod_eq_of_lt (by omega) (by omega)]; omega)⟩
  case round =>
    obtain ⟨k, v, hk, hv0, hv1, rfl, rfl, HV⟩ := hrel
    by_cases hlt : k ≤ q
    · have hv2 : (v + 1) % n = (id + (k + 1 : Nat)) % n := by
        have e : id + ((k + 1 : Nat) : Int) = (id + k) + 1 := by omega
        rw [e, HV.out, Int.emod_add_emod]
      by_cases hw : v + 1 = n
      · have HW : Hid (0 = (id + (k + 1 : Nat)) % n) := Lib.hid (by rw [← hv2, hw, Int.emod_self])
        have hb : (v + 1 == n) = true := by rw [beq_iff_eq]; exact hw
        clear hv2 hw
        go_wp2_with fail
        go_round
        case rel => exact ⟨k + 1, 0, by omega, by omega, by omega, by go_num, rfl, HW⟩
        case measure => simp [intOf]; omega
      · have HW : Hid (v + 1 = (id + (k + 1 : Nat)) % n) := Lib.hid (by rw [← hv2, Int.emod_eq_of_lt (by omega) (by omega)])
        have hb : (v + 1 == n) = false := by rw [beq_eq_false_iff_ne]; exact hw
        have hvn : v + 1 < n := by omega
        clear hv2 hw
        go_wp2_with fail
        go_round
        case rel => exact ⟨k + 1, v + 1, by omega, by omega, by omega, by go_num, rfl, HW⟩
        case measure => simp [intOf]; omega
    · obtain rfl : k = q + 1 := by omega
      have HR : Hid (v = (id + 1 + q) % n) := Lib.hid (by rw [HV.out]; congr 1; omega)
      clear hlt
      go_wp2_with fail
      go_ret
      exact ⟨ret_int HR.out, rfl⟩

theorem rpeer_no_1 (n id t : Int) (w : World) (h : n < 2) : Calls Try.prog 10 #[.int .i64 n, .int .i64 id, .int .i64 t] w fun e w' => e = .returned (.int .i64 (-1)) ∧ w = w' := by
  go_enter Try.func10, Try.ntmps10
  go_wp2_with fail
  go_ret
  exact ⟨rfl, rfl⟩
theorem rpeer_no_2 (n id t : Int) (w : World) (h0 : decide (n < 2) = false) (h : 7 < n) : Calls Try.prog 10 #[.int .i64 n, .int .i64 id, .int .i64 t] w fun e w' => e = .returned (.int .i64 (-1)) ∧ w = w' := by
  go_enter Try.func10, Try.ntmps10
  go_wp2_with fail
  go_ret
  exact ⟨rfl, rfl⟩
theorem rpeer_no_3 (n id t : Int) (w : World) (h0 : decide (n < 2) = false) (h1 : decide (7 < n) = false) (h : id < 0) : Calls Try.prog 10 #[.int .i64 n, .int .i64 id, .int .i64 t] w fun e w' => e = .returned (.int .i64 (-1)) ∧ w = w' := by
  go_enter Try.func10, Try.ntmps10
  go_wp2_with fail
  go_ret
  exact ⟨rfl, rfl⟩
theorem rpeer_no_4 (n id t : Int) (w : World) (h0 : decide (n < 2) = false) (h1 : decide (7 < n) = false) (h2 : decide (id < 0) = false) (h : n ≤ id) : Calls Try.prog 10 #[.int .i64 n, .int .i64 id, .int .i64 t] w fun e w' => e = .returned (.int .i64 (-1)) ∧ w = w' := by
  go_enter Try.func10, Try.ntmps10
  go_wp2_with fail
  go_ret
  exact ⟨rfl, rfl⟩
theorem rpeer_no_5 (n id t : Int) (w : World) (h0 : decide (n < 2) = false) (h1 : decide (7 < n) = false) (h2 : decide (id < 0) = false) (h3 : decide (n ≤ id) = false) (h : t < 0) : Calls Try.prog 10 #[.int .i64 n, .int .i64 id, .int .i64 t] w fun e w' => e = .returned (.int .i64 (-1)) ∧ w = w' := by
  go_enter Try.func10, Try.ntmps10
  go_wp2_with fail
  go_ret
  exact ⟨rfl, rfl⟩
theorem rpeer_any (n id t : Int) (w : World) (h6 : t ≤ 9223372036854775807) : Calls Try.prog 10 #[.int .i64 n, .int .i64 id, .int .i64 t] w fun e w' => e = .returned (.int .i64 (peerI n id t)) ∧ w = w' := by
  by_cases h1 : n < 2
  · rw [peerI_no (by simp [peerB]; omega)]; exact rpeer_no_1 n id t w h1
  have g1 : decide (n < 2) = false := decide_eq_false h1
  by_cases h2 : 7 < n
  · rw [peerI_no (by simp [peerB]; omega)]; exact rpeer_no_2 n id t w g1 h2
  have g2 : decide (7 < n) = false := decide_eq_false h2
  by_cases h3 : id < 0
  · rw [peerI_no (by simp [peerB]; omega)]; exact rpeer_no_3 n id t w g1 g2 h3
  have g3 : decide (id < 0) = false := decide_eq_false h3
  by_cases h4 : n ≤ id
  · rw [peerI_no (by simp [peerB]; omega)]; exact rpeer_no_4 n id t w g1 g2 g3 h4
  have g4 : decide (n ≤ id) = false := decide_eq_false h4
  by_cases h5 : t < 0
  · rw [peerI_no (by simp [peerB]; omega)]; exact rpeer_no_5 n id t w g1 g2 g3 g4 h5
  unfold peerI
  rw [peerB_mk (by omega) (by omega) (by omega) (by omega) (by omega), if_pos rfl]
  exact rpeer_yes n id t w (by omega) (by omega) (by omega) (by omega) (by omega) h6
end Go.Proofs.Ytfkcbnndmheijaa
