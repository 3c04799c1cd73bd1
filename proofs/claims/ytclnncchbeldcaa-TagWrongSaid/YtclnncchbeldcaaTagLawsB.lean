/-
  THE WALKS OF THE LAWS TagForms, ..
-/
import Derived.Test.YtclnncchbeldcaaTagH
namespace Go.Proofs.Ytclnncchbeldcaa
open Go.RowKit
set_option linter.unusedVariables false
attribute [local go_sem] BW_cell BW_frozen

theorem same_self (A B : Option Addr) (c d : Nat) (l : List UInt8) (n k : Nat) (w : World) (hl : Rd w A l) (hm : Rd w B l) (hc : l.length ≤ maxLen) (hn : n = l.length) (hk : k = l.length) :
    Calls Try.prog 26 #[.slice A n c, .slice B k d] w (RetV w (.bool true)) := by
  have := same_n A B c d l l n k w hl hm hc hc hn hk
  rwa [eqB_self] at this

set_option maxHeartbeats 4000000 in
theorem tagForms_walk (rp rg pl ix ic : Int) (A : Option Addr) (c : Nat) (l : List UInt8) (w : World) (b0 : -9223372036854775808 ≤ rp) (b1 : rp ≤ 9223372036854775807) (b2 : -9223372036854775808 ≤ rg) (b3 : rg ≤ 9223372036854775807)
    (b4 : -9223372036854775808 ≤ pl) (b5 : pl ≤ 9223372036854775807) (b6 : -9223372036854775808 ≤ ix) (b7 : ix ≤ 9223372036854775807) (b8 : -9223372036854775808 ≤ ic) (b9 : ic ≤ 9223372036854775807)
    (hr : Rd w A l) (hc : l.length ≤ c) (hm : c ≤ maxLen) :
    Calls Try.prog 6 #[.agg #[.int .i64 rp, .int .i64 rg, .int .i64 pl, .int .i64 ix, .int .i64 ic], .slice A l.length c] w (RetV w (.bool true)) := by
  clear b0 b1 b2 b3 b4 b5 b6 b7 b8 b9
  by_cases hlen : l.length ≤ 300
  · have hlm : l.length ≤ maxLen := by omega
    have hl47 : l.length ≤ 140737488355328 := by omega
    obtain ⟨L, HL⟩ : ∃ L, Hid (L = tagL rp rg pl ix ic) := ⟨_, Lib.hid rfl⟩
    have hLl : L.length ≤ 15 := by rw [HL.out, tagL_length]; split <;> omega
    have hLm : L.length ≤ maxLen := by unfold maxLen; omega
    obtain ⟨E, HE⟩ : ∃ E, Hid (E = tagE rp rg pl ix ic) := ⟨_, Lib.hid rfl⟩
    obtain ⟨M, HM⟩ : ∃ M, Hid (M = mayB rp rg pl ix ic) := ⟨_, Lib.hid rfl⟩
    obtain ⟨f0, F0⟩ : ∃ f, Hid (f = tagF l 0 1) := ⟨_, Lib.hid rfl⟩
    obtain ⟨f1, F1⟩ : ∃ f, Hid (f = tagF l 1 1) := ⟨_, Lib.hid rfl⟩
    obtain ⟨f2, F2⟩ : ∃ f, Hid (f = tagF l 2 1) := ⟨_, Lib.hid rfl⟩
    obtain ⟨f3, F3⟩ : ∃ f, Hid (f = tagF l 3 6) := ⟨_, Lib.hid rfl⟩
    obtain ⟨f4, F4⟩ : ∃ f, Hid (f = tagF l 9 6) := ⟨_, Lib.hid rfl⟩
    obtain ⟨P, HP⟩ : ∃ P, Hid (P = tagP l) := ⟨_, Lib.hid rfl⟩
    have HW : Hid (tagW l = .agg #[.int .i64 f0, .int .i64 f1, .int .i64 f2, .int .i64 f3, .int .i64 f4]) := Lib.hid (by rw [F0.out, F1.out, F2.out, F3.out, F4.out]; rfl)
    go_enter Try.func6, Try.ntmps6
    go_wp2_with fail
    refine (copy_any A c l _ (hr.alloc _) hl47).mono ?_
    rintro e w1 ⟨A1, c1, rfl, hown1, hb1⟩
    have B1 := (Blk.new w 29 #[.int .i64 rp, .int .i64 rg, .int .i64 pl, .int .i64 ix, .int .i64 ic]).bel hb1
    have hbb : Below w.heap.size w w1 := ((Below.refl _ _).alloc (Nat.le_refl _) _).trans (hb1.mono (by simp))
    have k0 := B1.c 0 (.int .i64 rp) rfl
    have k1 := B1.c 1 (.int .i64 rg) rfl
    have k2 := B1.c 2 (.int .i64 pl) rfl
    have k3 := B1.c 3 (.int .i64 ix) rfl
    have k4 := B1.c 4 (.int .i64 ic) rfl
    go_wp2_with fail
    refine (print_any _ _ _ _ _ _).mono ?_
    rw [← HL.out, ← HE.out]
    rintro e w2 ⟨A2, c2, rfl, hown2, hb2⟩
    have B2 := B1.bel hb2
    clear k0 k1 k2 k3 k4 B1
    have k0 := B2.c 0 (.int .i64 rp) rfl
    have k1 := B2.c 1 (.int .i64 rg) rfl
    have k2 := B2.c 2 (.int .i64 pl) rfl
    have k3 := B2.c 3 (.int .i64 ix) rfl
    have k4 := B2.c 4 (.int .i64 ic) rfl
    go_wp2_with fail
    refine (rprint_any _ _ _ _ _ _).mono ?_
    rw [← HL.out, ← HE.out]
    rintro e w3 ⟨A3, c3, rfl, hown3, hb3⟩
    have B3 := B2.bel hb3
    clear k0 k1 k2 k3 k4 B2
    go_wp2_with fail
    refine (parse_any A1 c1 l _ ((hown1.below hb2).below hb3).rd hown1.caps.1 hown1.caps.2).mono ?_
    rw [HW.out, ← HP.out]
    rintro e w4 ⟨rfl, hb4⟩
    have B4 := B3.bel hb4
    go_wp2_with fail
    refine (rparse_any A c l _ (((((hr.alloc _).below hb1).below hb2).below hb3).below hb4 |>.alloc _) hlm).mono ?_
    rw [HW.out, ← HP.out]
    rintro e w5 ⟨rfl, hb5⟩
    have B5 := ((B4.alloc (.cells #[.int .i64 f0, .int .i64 f1, .int .i64 f2, .int .i64 f3, .int .i64 f4] 29)).bel hb5).alloc (.cells #[.int .i64 f0, .int .i64 f1, .int .i64 f2, .int .i64 f3, .int .i64 f4] 29)
    have C5 := ((Blk.new w4 29 #[.int .i64 f0, .int .i64 f1, .int .i64 f2, .int .i64 f3, .int .i64 f4]).bel hb5).alloc (.cells #[.int .i64 f0, .int .i64 f1, .int .i64 f2, .int .i64 f3, .int .i64 f4] 29)
    have k0 := B5.c 0 (.int .i64 rp) rfl
    have k1 := B5.c 1 (.int .i64 rg) rfl
    have k2 := B5.c 2 (.int .i64 pl) rfl
    have k3 := B5.c 3 (.int .i64 ix) rfl
    have k4 := B5.c 4 (.int .i64 ic) rfl
    have j0 := C5.c 0 (.int .i64 f0) rfl
    have j1 := C5.c 1 (.int .i64 f1) rfl
    have j2 := C5.c 2 (.int .i64 f2) rfl
    have j3 := C5.c 3 (.int .i64 f3) rfl
    have j4 := C5.c 4 (.int .i64 f4) rfl
    have x1 := B5.lt
    have x2 := C5.lt
    simp only [World.size_alloc] at x1 x2
    have hb5' : Below w4.heap.size w4 w5 := ((Below.refl _ _).alloc (Nat.le_refl _) _).trans (hb5.mono (by simp))
    have hbx : Below w.heap.size w w5 := bt (bt (bt (bt hbb hb2) hb3) hb4) hb5'
    have ra : Rd w5 A l := hr.below hbx
    have r1 : Rd w5 A1 l := ((((hown1.below hb2).below hb3).below hb4).below hb5').rd
    have r2 : Rd w5 A2 L := (((hown2.below hb3).below hb4).below hb5').rd
    have r3 : Rd w5 A3 L := ((hown3.below hb4).below hb5').rd
    have RA := Lib.hid (ra.alloc (.cells #[.int .i64 f0, .int .i64 f1, .int .i64 f2, .int .i64 f3, .int .i64 f4] 29))
    have R1 := Lib.hid (r1.alloc (.cells #[.int .i64 f0, .int .i64 f1, .int .i64 f2, .int .i64 f3, .int .i64 f4] 29))
    have R2 := Lib.hid (r2.alloc (.cells #[.int .i64 f0, .int .i64 f1, .int .i64 f2, .int .i64 f3, .int .i64 f4] 29))
    have R3 := Lib.hid (r3.alloc (.cells #[.int .i64 f0, .int .i64 f1, .int .i64 f2, .int .i64 f3, .int .i64 f4] 29))
    clear ra r1 r2 r3
    go_wp2_with fail
    refine wp_region_calm (by kernel_rfl) (by kernel_rfl) ?_
    repeat (go_big_quiet_step (first
      | (go_at_call 19; exact calm_of (may_any _ _ _ _ _ _))
      | (go_at_call 25; exact calm_of (rmay_any _ _ _ _ _ _))
      | (go_at_call_of 26 A2; exact calm_of (same_self A2 A3 c2 c3 L _ _ _ (R2.out.bw _) (R3.out.bw _) hLm rfl rfl))
      | (go_at_call_of 26 A1; exact calm_of (same_self A1 A c1 c l _ _ _ (R1.out.bw _) (RA.out.bw _) hlm rfl rfl))))
    refine wpQuiet_nil ?_
    intro w' hw'
    have hb := BW_get hw'
    clear hw'
    go_wp2_with fail
    go_ret
    exact ⟨rfl, (hbx.alloc hbx.size _).trans (hb.mono (by have := hbx.size; simp; omega))⟩
  · have : (300 : Int) < l.length := by omega
    clear hlen
    go_enter Try.func6, Try.ntmps6
    go_wp2_with fail
    go_ret
    exact ⟨rfl, (Below.refl _ _).alloc (Nat.le_refl _) _⟩
end Go.Proofs.Ytclnncchbeldcaa
