/-
  THE WALK OF THE LAW SlotForms.
-/
import Derived.Test.YtppokfenbdfegaaSlotC
namespace Go.Proofs.Ytppokfenbdfegaa
open Go.RowKit
set_option linter.unusedVariables false

set_option maxHeartbeats 4000000 in
theorem slotForms_walk (ro rp wh : Int) (A : Option Addr) (c : Nat) (l : List UInt8) (w : World) (b0 : -9223372036854775808 ≤ ro) (b1 : ro ≤ 9223372036854775807) (b2 : -9223372036854775808 ≤ rp) (b3 : rp ≤ 9223372036854775807)
    (b4 : -9223372036854775808 ≤ wh) (b5 : wh ≤ 9223372036854775807) (hr : Rd w A l) (hc : l.length ≤ c) (hm : c ≤ maxLen) :
    Calls Try.prog 3 #[.agg #[.int .i64 ro, .int .i64 rp], .int .i64 wh, .slice A l.length c] w (RetV w (.bool true)) := by
  clear b0 b1 b2 b3 b4 b5
  by_cases hlen : l.length ≤ 100
  · have hlm : l.length ≤ maxLen := by omega
    have hl47 : l.length ≤ 140737488355328 := by omega
    obtain ⟨L, HL⟩ : ∃ L, Hid (L = sloL ro rp wh) := ⟨_, Lib.hid rfl⟩
    have hLl : L.length ≤ 8 := by rw [HL.out, sloL_length]; split <;> omega
    have hLm : L.length ≤ maxLen := by unfold maxLen; omega
    obtain ⟨E, HE⟩ : ∃ E, Hid (E = sloE ro rp wh) := ⟨_, Lib.hid rfl⟩
    obtain ⟨f0, F0⟩ : ∃ f, Hid (f = sloF l 0 6) := ⟨_, Lib.hid rfl⟩
    obtain ⟨f1, F1⟩ : ∃ f, Hid (f = sloF l 6 1) := ⟨_, Lib.hid rfl⟩
    obtain ⟨f2, F2⟩ : ∃ f, Hid (f = sloF l 7 1) := ⟨_, Lib.hid rfl⟩
    obtain ⟨P, HP⟩ : ∃ P, Hid (P = sloX l) := ⟨_, Lib.hid rfl⟩
    have HW : Hid (sloR l = .tuple #[.agg #[.int .i64 f0, .int .i64 f1], .int .i64 f2, .int .i64 P]) := Lib.hid (by rw [F0.out, F1.out, F2.out, HP.out]; rfl)
    go_enter Try.func3, Try.ntmps3
    go_wp2_with fail
    refine (copy_any A c l _ (hr.alloc _) hl47).mono ?_
    rintro e w1 ⟨A1, c1, rfl, hown1, hb1⟩
    have B1 := (Blk.new w 23 #[.int .i64 ro, .int .i64 rp]).bel hb1
    have hbb := bac hb1
    have k0 := B1.c 0 (.int .i64 ro) rfl
    have k1 := B1.c 1 (.int .i64 rp) rfl
    go_wp2_with fail
    refine (sprint_any _ _ _ _).mono ?_
    rw [← HL.out, ← HE.out]
    rintro e w2 ⟨A2, c2, rfl, hown2, hb2⟩
    have B2 := B1.bel hb2
    clear k0 k1
    have k0 := B2.c 0 (.int .i64 ro) rfl
    have k1 := B2.c 1 (.int .i64 rp) rfl
    go_wp2_with fail
    refine (rsprint_any _ _ _ _).mono ?_
    rw [← HL.out, ← HE.out]
    rintro e w3 ⟨A3, c3, rfl, hown3, hb3⟩
    clear k0 k1
    go_wp2_with fail
    refine (sparse_any A1 c1 l _ ((hown1.below hb2).below hb3).rd hown1.caps.1 hown1.caps.2).mono ?_
    rw [HW.out]
    rintro e w4 ⟨rfl, hb4⟩
    go_wp2_with fail
    refine (rsparse_any A c l _ ((((hr.below hbb).below hb2).below hb3).below hb4 |>.alloc _) hlm).mono ?_
    rw [HW.out]
    rintro e w5 ⟨rfl, hb5⟩
    have C5 := ((Blk.new w4 23 #[.int .i64 f0, .int .i64 f1]).bel hb5).alloc (.cells #[.int .i64 f0, .int .i64 f1] 23)
    have D5 := Blk.new w5 23 #[.int .i64 f0, .int .i64 f1]
    have hb5' : Below w4.heap.size w4 w5 := bac hb5
    have hbx : Below w.heap.size w w5 := bt (bt (bt (bt hbb hb2) hb3) hb4) hb5'
    have ra : Rd w5 A l := hr.below hbx
    have r1 : Rd w5 A1 l := ((((hown1.below hb2).below hb3).below hb4).below hb5').rd
    have r2 : Rd w5 A2 L := (((hown2.below hb3).below hb4).below hb5').rd
    have r3 : Rd w5 A3 L := ((hown3.below hb4).below hb5').rd
    go_wp2_with fail
    refine (same_self A2 A3 c2 c3 L _ _ _ (r2.alloc _) (r3.alloc _) hLm rfl rfl).mono ?_
    rintro e w6 ⟨rfl, hb6⟩
    have C6 := C5.bel hb6
    have D6 := D5.bel hb6
    have k0 := C6.c 0 (.int .i64 f0) rfl
    have k1 := C6.c 1 (.int .i64 f1) rfl
    have j0 := D6.c 0 (.int .i64 f0) rfl
    have j1 := D6.c 1 (.int .i64 f1) rfl
    go_wp2_with fail
    refine (same_self A1 A c1 c l _ _ _ ((r1.alloc _).below hb6) ((ra.alloc _).below hb6) hlm rfl rfl).mono ?_
    rintro e w7 ⟨rfl, hb7⟩
    go_wp2_with fail
    go_ret
    exact ⟨rfl, bt (bt (bal hbx _) hb6) hb7⟩
  · have : (100 : Int) < l.length := by omega
    clear hlen
    go_enter Try.func3, Try.ntmps3
    go_wp2_with fail
    go_ret
    exact ⟨rfl, bal0 _ _⟩
end Go.Proofs.Ytppokfenbdfegaa
