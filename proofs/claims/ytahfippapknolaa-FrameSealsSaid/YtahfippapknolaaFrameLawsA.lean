/-
  THE WALK OF THE LAW FrameSeals.
-/
import Derived.Test.YtahfippapknolaaFrameB
namespace Go.Proofs.Ytahfippapknolaa
open Go.RowKit
set_option linter.unusedVariables false

theorem sealL_length (rp rg pl ix ic : Int) (l : List UInt8) (s : Int) : (sealL rp rg pl ix ic l s).length ≤ 128 := by
  unfold sealL
  split
  · rename_i h
    unfold sealE at h
    split at h
    · omega
    · split at h
      · omega
      · rename_i h1 h2
        have hm : mayB rp rg pl ix ic = true := by
          cases e : mayB rp rg pl ix ic
          · exact absurd (.inl e) h1
          · rfl
        rcases roomI_cases (s := s) (fun e => h1 (.inr e)) with ⟨rfl, h3⟩ | ⟨rfl, h3⟩
        · rw [frmL_length _ _ _ (by rw [tagL_length, hm]; rfl) (by rw [h3] at h2; omega) (by rw [h3] at h2; omega)]; decide
        · rw [frmL_length _ _ _ (by rw [tagL_length, hm]; rfl) (by rw [h3] at h2; omega) (by rw [h3] at h2; omega)]; decide
  · simp


set_option maxHeartbeats 2000000 in
theorem frameSeals_walk (rp rg pl ix ic : Int) (A : Option Addr) (c : Nat) (l : List UInt8) (s : Int) (w : World) (b0 : -9223372036854775808 ≤ rp) (b1 : rp ≤ 9223372036854775807) (b2 : -9223372036854775808 ≤ rg) (b3 : rg ≤ 9223372036854775807)
    (b4 : -9223372036854775808 ≤ pl) (b5 : pl ≤ 9223372036854775807) (b6 : -9223372036854775808 ≤ ix) (b7 : ix ≤ 9223372036854775807) (b8 : -9223372036854775808 ≤ ic) (b9 : ic ≤ 9223372036854775807)
    (hr : Rd w A l) (hc : l.length ≤ c) (hm : c ≤ maxLen) (s0 : -9223372036854775808 ≤ s) (s1 : s ≤ 9223372036854775807) :
    Calls Try.prog 3 #[.agg #[.int .i64 rp, .int .i64 rg, .int .i64 pl, .int .i64 ix, .int .i64 ic], .slice A l.length c, .int .i64 s] w (RetV w (.bool true)) := by
  clear b0 b1 b2 b3 b4 b5 b6 b7 b8 b9
  by_cases hlen : l.length ≤ 300
  · have hlm : l.length ≤ maxLen := by omega
    have hl47 : l.length ≤ 140737488355328 := by omega
    obtain ⟨L, HL⟩ : ∃ L, Hid (L = sealL rp rg pl ix ic l s) := ⟨_, Lib.hid rfl⟩
    have hLm : L.length ≤ maxLen := by have := sealL_length rp rg pl ix ic l s; rw [HL.out]; unfold maxLen; omega
    obtain ⟨E, HE⟩ : ∃ E, Hid (E = sealE (mayB rp rg pl ix ic) l s) := ⟨_, Lib.hid rfl⟩
    obtain ⟨R, HR⟩ : ∃ E, Hid (E = roomI s) := ⟨_, Lib.hid rfl⟩
    go_enter Try.func3, Try.ntmps3
    go_wp2_with fail
    refine (copy_any A c l _ (hr.alloc _) hl47).mono ?_
    rintro e w1 ⟨A1, c1, rfl, hown1, hb1⟩
    have B1 := (Blk.new w 23 #[.int .i64 rp, .int .i64 rg, .int .i64 pl, .int .i64 ix, .int .i64 ic]).bel hb1
    have hbb := bac hb1
    have k0 := B1.c 0 (.int .i64 rp) rfl
    have k1 := B1.c 1 (.int .i64 rg) rfl
    have k2 := B1.c 2 (.int .i64 pl) rfl
    have k3 := B1.c 3 (.int .i64 ix) rfl
    have k4 := B1.c 4 (.int .i64 ic) rfl
    go_wp2_with fail
    refine (seal_any _ _ _ _ _ A1 c1 l _ _ hown1.rd).mono ?_
    rw [← HL.out, ← HE.out]
    rintro e w2 ⟨A2, c2, rfl, hown2, hb2⟩
    have B2 := B1.bel hb2
    clear k0 k1 k2 k3 k4
    have k0 := B2.c 0 (.int .i64 rp) rfl
    have k1 := B2.c 1 (.int .i64 rg) rfl
    have k2 := B2.c 2 (.int .i64 pl) rfl
    have k3 := B2.c 3 (.int .i64 ix) rfl
    have k4 := B2.c 4 (.int .i64 ic) rfl
    go_wp2_with fail
    refine (rseal_any _ _ _ _ _ A c l _ _ ((hr.below hbb).below hb2)).mono ?_
    rw [← HL.out, ← HE.out]
    rintro e w3 ⟨A3, c3, rfl, hown3, hb3⟩
    clear k0 k1 k2 k3 k4
    have hbx := bt (bt hbb hb2) hb3
    have ra := hr.below hbx
    have r1 := ((hown1.below hb2).below hb3).rd
    go_wp2_with fail
    refine (room_any _ _).mono ?_
    rw [← HR.out]
    rintro e w4 ⟨rfl, rfl⟩
    go_wp2_with fail
    refine (rroom_any _ _).mono ?_
    rw [← HR.out]
    rintro e w4 ⟨rfl, rfl⟩
    go_wp2_with fail
    refine (same_self A2 A3 c2 c3 L _ _ _ (hown2.below hb3).rd hown3.rd hLm rfl rfl).mono ?_
    rintro e w4 ⟨rfl, hb4⟩
    go_wp2_with fail
    refine (same_self A1 A c1 c l _ _ _ (r1.below hb4) (ra.below hb4) hlm rfl rfl).mono ?_
    rintro e w5 ⟨rfl, hb5⟩
    go_wp2_with fail
    go_ret
    exact ⟨rfl, bt (bt hbx hb4) hb5⟩
  · have : (300 : Int) < l.length := by omega
    clear hlen
    go_enter Try.func3, Try.ntmps3
    go_wp2_with fail
    go_ret
    exact ⟨rfl, bal0 _ _⟩
end Go.Proofs.Ytahfippapknolaa
