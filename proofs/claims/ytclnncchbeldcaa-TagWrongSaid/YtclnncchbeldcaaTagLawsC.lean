/-
  THE WALKS OF THE LAWS ON TAGS THAT ARE OUTRIGHT: awake, ..
-/
import Derived.Test.YtclnncchbeldcaaTagLawsB
import Derived.Test.YtclnncchbeldcaaTagB
namespace Go.Proofs.Ytclnncchbeldcaa
open Go.RowKit
set_option linter.unusedVariables false
attribute [local go_sem] BW_cell BW_frozen

set_option maxHeartbeats 4000000 in
theorem awake_any (w : World) : Calls Try.prog 18 #[] w (RetV w (.bool true)) := by
  have HL : Hid (tagL 1 4 47 258 3 = [1, 4, 47, 2, 1, 0, 0, 0, 0, 3, 0, 0, 0, 0, 0]) := Lib.hid (by decide +kernel)
  have HE : Hid (tagE 1 4 47 258 3 = 0) := Lib.hid (by decide +kernel)
  have HA : ∀ W, RetW W 31 = RetV W (.tuple #[.int .i64 4, .int .i64 1, .int .i64 1, .bool true]) := fun W => by
    unfold RetW
    rw [show whr 31 = 4 by decide +kernel, show whp 31 = 1 by decide +kernel, show whk 31 = 1 by decide +kernel, show who 31 = true by decide +kernel]
  have HB : ∀ W, RetW W 156 = RetV W (.tuple #[.int .i64 0, .int .i64 0, .int .i64 0, .bool false]) := fun W => by
    unfold RetW
    rw [show whr 156 = 0 by decide +kernel, show whp 156 = 0 by decide +kernel, show whk 156 = 0 by decide +kernel, show who 156 = false by decide +kernel]
  have HA := Lib.hid HA
  have HB := Lib.hid HB
  have H0 : Hid (fst 1 0 = 0) := Lib.hid (by decide +kernel)
  have H1 : Hid (fst 3 0 = 4) := Lib.hid (by decide +kernel)
  have H2 : Hid (fst 4 1 = 30) := Lib.hid (by decide +kernel)
  have H3 : Hid (fst 5 15 = 154) := Lib.hid (by decide +kernel)
  have H4 : Hid (fst 2 2 = -1) := Lib.hid (by decide +kernel)
  go_enter Try.func18, Try.ntmps18
  go_wp2_with fail
  refine (print_any 1 4 47 258 3 _).mono ?_
  rw [HL.out, HE.out]
  rintro e w1 ⟨A1, c1, rfl, hown1, hb1⟩
  go_wp2_with fail
  refine (where_all 31 _ (by decide) (by decide)).mono ?_
  rw [HA.out]
  rintro e w2 ⟨rfl, hb2⟩
  go_wp2_with fail
  refine (where_all 156 _ (by decide) (by decide)).mono ?_
  rw [HB.out]
  rintro e w3 ⟨rfl, hb3⟩
  have r3 : Rd w3 A1 _ := ((hown1.below hb2).below hb3).rd
  go_wp2_with fail
  refine (same_self A1 (some ⟨w3.heap.size, 0, none⟩) c1 15 [1, 4, 47, 2, 1, 0, 0, 0, 0, 3, 0, 0, 0, 0, 0] 15 15 _ (r3.alloc _) (rd_lit w3 _ _ rfl) (by decide) rfl rfl).mono ?_
  rintro e w4 ⟨rfl, hb4⟩
  have hbx : Below w.heap.size w w4 := bt (bt (bt hb1 hb2) hb3) (((Below.refl _ _).alloc (Nat.le_refl _) _).trans (hb4.mono (by simp)))
  clear hb1 hb2 hb3 hb4 r3 hown1
  go_wp2_with fail
  refine (first_any 1 0 _).mono ?_
  rw [H0.out]
  rintro e w5 ⟨rfl, hb5⟩
  go_wp2_with fail
  refine (first_any 3 0 _).mono ?_
  rw [H1.out]
  rintro e w6 ⟨rfl, hb6⟩
  go_wp2_with fail
  refine (first_any 4 1 _).mono ?_
  rw [H2.out]
  rintro e w7 ⟨rfl, hb7⟩
  go_wp2_with fail
  refine (first_any 5 15 _).mono ?_
  rw [H3.out]
  rintro e w8 ⟨rfl, hb8⟩
  go_wp2_with fail
  refine (first_any 2 2 _).mono ?_
  rw [H4.out]
  rintro e w9 ⟨rfl, hb9⟩
  go_wp2_with fail
  go_ret
  exact ⟨rfl, bt (bt (bt (bt (bt hbx hb5) hb6) hb7) hb8) hb9⟩
set_option maxHeartbeats 4000000 in
theorem tagBack_yy (rp rg pl ix ic : Int) (A : Option Addr) (c : Nat) (l : List UInt8) (w : World) (hm0 : mayB rp rg pl ix ic = true) (ht0 : tagB l = true)
    (hlen : l.length ≤ 300) (hr : Rd w A l) (hc : l.length ≤ c) (hm : c ≤ maxLen) :
    Calls Try.prog 7 #[.agg #[.int .i64 rp, .int .i64 rg, .int .i64 pl, .int .i64 ix, .int .i64 ic], .slice A l.length c] w (RetV w (.bool true)) := by
  have hlm : l.length ≤ maxLen := by omega
  obtain ⟨L, HL⟩ : ∃ L, Hid (L = tagL rp rg pl ix ic) := ⟨_, Lib.hid rfl⟩
  have hLl : L.length ≤ 15 := by rw [HL.out, tagL_length]; split <;> omega
  have HE : Hid (tagE rp rg pl ix ic = 0) := Lib.hid (by simp [tagE, hm0])
  have HM := Lib.hid hm0
  have HW : Hid (tagW L = .agg #[.int .i64 rp, .int .i64 rg, .int .i64 pl, .int .i64 ix, .int .i64 ic] ∧ tagP L = 0) := Lib.hid (by
    obtain ⟨g, g0, g1, g2, g3, g4⟩ := tag_parse_print hm0
    rw [← HL.out] at g g0 g1 g2 g3 g4
    have := tagW_some g
    rw [g0, g1, g2, g3, g4] at this
    exact this)
  obtain ⟨f0, F0⟩ : ∃ f, Hid (f = getN l 0 1) := ⟨_, Lib.hid rfl⟩
  obtain ⟨f1, F1⟩ : ∃ f, Hid (f = getN l 1 1) := ⟨_, Lib.hid rfl⟩
  obtain ⟨f2, F2⟩ : ∃ f, Hid (f = getN l 2 1) := ⟨_, Lib.hid rfl⟩
  obtain ⟨f3, F3⟩ : ∃ f, Hid (f = getN l 3 6) := ⟨_, Lib.hid rfl⟩
  obtain ⟨f4, F4⟩ : ∃ f, Hid (f = getN l 9 6) := ⟨_, Lib.hid rfl⟩
  have HP : Hid (tagW l = .agg #[.int .i64 f0, .int .i64 f1, .int .i64 f2, .int .i64 f3, .int .i64 f4] ∧ tagP l = 0) := Lib.hid (by
    have := tagW_some ht0
    rw [← F0.out, ← F1.out, ← F2.out, ← F3.out, ← F4.out] at this
    exact this)
  have HQ : Hid (mayB f0 f1 f2 f3 f4 = true ∧ tagL f0 f1 f2 f3 f4 = l) := Lib.hid (by
    have := tag_print_parse ht0
    rw [← F0.out, ← F1.out, ← F2.out, ← F3.out, ← F4.out] at this
    exact this)
  have HQE : Hid (tagE f0 f1 f2 f3 f4 = 0) := Lib.hid (by simp [tagE, HQ.out.1])
  clear hm0 ht0
  go_enter Try.func7, Try.ntmps7
  go_wp2_with fail
  refine (awake_any _).mono ?_
  rintro e w1 ⟨rfl, hb1⟩
  have B1 := (Blk.new w 29 #[.int .i64 rp, .int .i64 rg, .int .i64 pl, .int .i64 ix, .int .i64 ic]).bel hb1
  have hbb : Below w.heap.size w w1 := ((Below.refl _ _).alloc (Nat.le_refl _) _).trans (hb1.mono (by simp))
  clear hb1
  have k0 := B1.c 0 (.int .i64 rp) rfl
  have k1 := B1.c 1 (.int .i64 rg) rfl
  have k2 := B1.c 2 (.int .i64 pl) rfl
  have k3 := B1.c 3 (.int .i64 ix) rfl
  have k4 := B1.c 4 (.int .i64 ic) rfl
  go_wp2_with fail
  refine (print_any _ _ _ _ _ _).mono ?_
  rw [← HL.out, HE.out]
  rintro e w2 ⟨A2, c2, rfl, hown2, hb2⟩
  have B2 := B1.bel hb2
  have hbb2 := bt hbb hb2
  clear hb2 B1 hbb
  clear k0 k1 k2 k3 k4
  have k0 := B2.c 0 (.int .i64 rp) rfl
  have k1 := B2.c 1 (.int .i64 rg) rfl
  have k2 := B2.c 2 (.int .i64 pl) rfl
  have k3 := B2.c 3 (.int .i64 ix) rfl
  have k4 := B2.c 4 (.int .i64 ic) rfl
  go_wp2_with fail
  refine (may_any _ _ _ _ _ _).mono ?_
  rw [HM.out]
  rintro e w3 ⟨rfl, hb3⟩
  have B3 := B2.bel hb3
  have hbb3 := bt hbb2 hb3
  have hown3 := hown2.below hb3
  clear hb3 B2 hbb2 hown2
  clear k0 k1 k2 k3 k4
  go_wp2_with fail
  refine (parse_any A2 c2 L _ hown3.rd hown3.caps.1 hown3.caps.2).mono ?_
  rw [HW.out.1, HW.out.2]
  rintro e w4 ⟨rfl, hb4⟩
  have B4 := (B3.bel hb4).alloc (.cells #[.int .i64 rp, .int .i64 rg, .int .i64 pl, .int .i64 ix, .int .i64 ic] 29)
  have x4 := B4.lt
  simp only [World.size_alloc] at x4
  have hbb4 := (bt hbb3 hb4).alloc (Nat.le_trans hbb3.size hb4.size) (.cells #[.int .i64 rp, .int .i64 rg, .int .i64 pl, .int .i64 ix, .int .i64 ic] 29)
  have k0 := B4.c 0 (.int .i64 rp) rfl
  have k1 := B4.c 1 (.int .i64 rg) rfl
  have k2 := B4.c 2 (.int .i64 pl) rfl
  have k3 := B4.c 3 (.int .i64 ix) rfl
  have k4 := B4.c 4 (.int .i64 ic) rfl
  go_wp2_with fail
  refine (parse_any A c l _ (hr.below hbb4) hc hm).mono ?_
  rw [HP.out.1, HP.out.2]
  rintro e w5 ⟨rfl, hb5⟩
  have hbb5 := bt hbb4 hb5
  clear hb5
  go_wp2_with fail
  refine (print_any _ _ _ _ _ _).mono ?_
  rw [HQ.out.2, HQE.out]
  rintro e w6 ⟨A6, c6, rfl, hown6, hb6⟩
  have hbb6 := bt (hbb5.alloc hbb5.size (.cells #[.int .i64 f0, .int .i64 f1, .int .i64 f2, .int .i64 f3, .int .i64 f4] 29)) hb6
  go_wp2_with fail
  refine (same_self A6 A c6 c l _ _ _ hown6.rd (hr.below hbb6) hlm rfl rfl).mono ?_
  rintro e w7 ⟨rfl, hb7⟩
  go_wp2_with fail
  go_ret
  exact ⟨rfl, bt hbb6 hb7⟩
set_option maxHeartbeats 4000000 in
theorem tagBack_yn (rp rg pl ix ic : Int) (A : Option Addr) (c : Nat) (l : List UInt8) (w : World) (hm0 : mayB rp rg pl ix ic = true) (ht0 : tagB l = false)
    (hlen : l.length ≤ 300) (hr : Rd w A l) (hc : l.length ≤ c) (hm : c ≤ maxLen) :
    Calls Try.prog 7 #[.agg #[.int .i64 rp, .int .i64 rg, .int .i64 pl, .int .i64 ix, .int .i64 ic], .slice A l.length c] w (RetV w (.bool true)) := by
  have hlm : l.length ≤ maxLen := by omega
  obtain ⟨L, HL⟩ : ∃ L, Hid (L = tagL rp rg pl ix ic) := ⟨_, Lib.hid rfl⟩
  have hLl : L.length ≤ 15 := by rw [HL.out, tagL_length]; split <;> omega
  have HE : Hid (tagE rp rg pl ix ic = 0) := Lib.hid (by simp [tagE, hm0])
  have HM := Lib.hid hm0
  have HW : Hid (tagW L = .agg #[.int .i64 rp, .int .i64 rg, .int .i64 pl, .int .i64 ix, .int .i64 ic] ∧ tagP L = 0) := Lib.hid (by
    obtain ⟨g, g0, g1, g2, g3, g4⟩ := tag_parse_print hm0
    rw [← HL.out] at g g0 g1 g2 g3 g4
    have := tagW_some g
    rw [g0, g1, g2, g3, g4] at this
    exact this)
  have HP : Hid (tagW l = .agg #[.int .i64 0, .int .i64 0, .int .i64 0, .int .i64 0, .int .i64 0] ∧ tagP l = 30) := Lib.hid (tagW_none ht0)
  clear hm0 ht0
  go_enter Try.func7, Try.ntmps7
  go_wp2_with fail
  refine (awake_any _).mono ?_
  rintro e w1 ⟨rfl, hb1⟩
  have B1 := (Blk.new w 29 #[.int .i64 rp, .int .i64 rg, .int .i64 pl, .int .i64 ix, .int .i64 ic]).bel hb1
  have hbb : Below w.heap.size w w1 := ((Below.refl _ _).alloc (Nat.le_refl _) _).trans (hb1.mono (by simp))
  clear hb1
  have k0 := B1.c 0 (.int .i64 rp) rfl
  have k1 := B1.c 1 (.int .i64 rg) rfl
  have k2 := B1.c 2 (.int .i64 pl) rfl
  have k3 := B1.c 3 (.int .i64 ix) rfl
  have k4 := B1.c 4 (.int .i64 ic) rfl
  go_wp2_with fail
  refine (print_any _ _ _ _ _ _).mono ?_
  rw [← HL.out, HE.out]
  rintro e w2 ⟨A2, c2, rfl, hown2, hb2⟩
  have B2 := B1.bel hb2
  have hbb2 := bt hbb hb2
  clear hb2 B1 hbb
  clear k0 k1 k2 k3 k4
  have k0 := B2.c 0 (.int .i64 rp) rfl
  have k1 := B2.c 1 (.int .i64 rg) rfl
  have k2 := B2.c 2 (.int .i64 pl) rfl
  have k3 := B2.c 3 (.int .i64 ix) rfl
  have k4 := B2.c 4 (.int .i64 ic) rfl
  go_wp2_with fail
  refine (may_any _ _ _ _ _ _).mono ?_
  rw [HM.out]
  rintro e w3 ⟨rfl, hb3⟩
  have B3 := B2.bel hb3
  have hbb3 := bt hbb2 hb3
  have hown3 := hown2.below hb3
  clear hb3 B2 hbb2 hown2
  clear k0 k1 k2 k3 k4
  go_wp2_with fail
  refine (parse_any A2 c2 L _ hown3.rd hown3.caps.1 hown3.caps.2).mono ?_
  rw [HW.out.1, HW.out.2]
  rintro e w4 ⟨rfl, hb4⟩
  have B4 := (B3.bel hb4).alloc (.cells #[.int .i64 rp, .int .i64 rg, .int .i64 pl, .int .i64 ix, .int .i64 ic] 29)
  have x4 := B4.lt
  simp only [World.size_alloc] at x4
  have hbb4 := (bt hbb3 hb4).alloc (Nat.le_trans hbb3.size hb4.size) (.cells #[.int .i64 rp, .int .i64 rg, .int .i64 pl, .int .i64 ix, .int .i64 ic] 29)
  have k0 := B4.c 0 (.int .i64 rp) rfl
  have k1 := B4.c 1 (.int .i64 rg) rfl
  have k2 := B4.c 2 (.int .i64 pl) rfl
  have k3 := B4.c 3 (.int .i64 ix) rfl
  have k4 := B4.c 4 (.int .i64 ic) rfl
  go_wp2_with fail
  refine (parse_any A c l _ (hr.below hbb4) hc hm).mono ?_
  rw [HP.out.1, HP.out.2]
  rintro e w5 ⟨rfl, hb5⟩
  have hbb5 := bt hbb4 hb5
  clear hb5
  go_wp2_with fail
  go_ret
  exact ⟨rfl, hbb5.alloc hbb5.size _⟩
set_option maxHeartbeats 4000000 in
theorem tagBack_ny (rp rg pl ix ic : Int) (A : Option Addr) (c : Nat) (l : List UInt8) (w : World) (hm0 : mayB rp rg pl ix ic = false) (ht0 : tagB l = true)
    (hlen : l.length ≤ 300) (hr : Rd w A l) (hc : l.length ≤ c) (hm : c ≤ maxLen) :
    Calls Try.prog 7 #[.agg #[.int .i64 rp, .int .i64 rg, .int .i64 pl, .int .i64 ix, .int .i64 ic], .slice A l.length c] w (RetV w (.bool true)) := by
  have hlm : l.length ≤ maxLen := by omega
  obtain ⟨L, HL⟩ : ∃ L, Hid (L = tagL rp rg pl ix ic) := ⟨_, Lib.hid rfl⟩
  have hLl : L.length ≤ 15 := by rw [HL.out, tagL_length]; split <;> omega
  have HE : Hid (tagE rp rg pl ix ic = 2) := Lib.hid (by simp [tagE, hm0])
  have HM := Lib.hid hm0
  obtain ⟨f0, F0⟩ : ∃ f, Hid (f = getN l 0 1) := ⟨_, Lib.hid rfl⟩
  obtain ⟨f1, F1⟩ : ∃ f, Hid (f = getN l 1 1) := ⟨_, Lib.hid rfl⟩
  obtain ⟨f2, F2⟩ : ∃ f, Hid (f = getN l 2 1) := ⟨_, Lib.hid rfl⟩
  obtain ⟨f3, F3⟩ : ∃ f, Hid (f = getN l 3 6) := ⟨_, Lib.hid rfl⟩
  obtain ⟨f4, F4⟩ : ∃ f, Hid (f = getN l 9 6) := ⟨_, Lib.hid rfl⟩
  have HP : Hid (tagW l = .agg #[.int .i64 f0, .int .i64 f1, .int .i64 f2, .int .i64 f3, .int .i64 f4] ∧ tagP l = 0) := Lib.hid (by
    have := tagW_some ht0
    rw [← F0.out, ← F1.out, ← F2.out, ← F3.out, ← F4.out] at this
    exact this)
  have HQ : Hid (mayB f0 f1 f2 f3 f4 = true ∧ tagL f0 f1 f2 f3 f4 = l) := Lib.hid (by
    have := tag_print_parse ht0
    rw [← F0.out, ← F1.out, ← F2.out, ← F3.out, ← F4.out] at this
    exact this)
  have HQE : Hid (tagE f0 f1 f2 f3 f4 = 0) := Lib.hid (by simp [tagE, HQ.out.1])
  clear hm0 ht0
  go_enter Try.func7, Try.ntmps7
  go_wp2_with fail
  refine (awake_any _).mono ?_
  rintro e w1 ⟨rfl, hb1⟩
  have B1 := (Blk.new w 29 #[.int .i64 rp, .int .i64 rg, .int .i64 pl, .int .i64 ix, .int .i64 ic]).bel hb1
  have hbb : Below w.heap.size w w1 := ((Below.refl _ _).alloc (Nat.le_refl _) _).trans (hb1.mono (by simp))
  clear hb1
  have k0 := B1.c 0 (.int .i64 rp) rfl
  have k1 := B1.c 1 (.int .i64 rg) rfl
  have k2 := B1.c 2 (.int .i64 pl) rfl
  have k3 := B1.c 3 (.int .i64 ix) rfl
  have k4 := B1.c 4 (.int .i64 ic) rfl
  go_wp2_with fail
  refine (print_any _ _ _ _ _ _).mono ?_
  rw [← HL.out, HE.out]
  rintro e w2 ⟨A2, c2, rfl, hown2, hb2⟩
  have B2 := B1.bel hb2
  have hbb2 := bt hbb hb2
  clear hb2 B1 hbb
  clear k0 k1 k2 k3 k4
  have k0 := B2.c 0 (.int .i64 rp) rfl
  have k1 := B2.c 1 (.int .i64 rg) rfl
  have k2 := B2.c 2 (.int .i64 pl) rfl
  have k3 := B2.c 3 (.int .i64 ix) rfl
  have k4 := B2.c 4 (.int .i64 ic) rfl
  go_wp2_with fail
  refine (may_any _ _ _ _ _ _).mono ?_
  rw [HM.out]
  rintro e w3 ⟨rfl, hb3⟩
  have B3 := B2.bel hb3
  have hbb3 := bt hbb2 hb3
  have hown3 := hown2.below hb3
  clear hb3 B2 hbb2 hown2
  clear k0 k1 k2 k3 k4
  go_wp2_with fail
  refine (parse_any A c l _ (hr.below hbb3) hc hm).mono ?_
  rw [HP.out.1, HP.out.2]
  rintro e w5 ⟨rfl, hb5⟩
  have hbb5 := bt hbb3 hb5
  clear hb5
  go_wp2_with fail
  refine (print_any _ _ _ _ _ _).mono ?_
  rw [HQ.out.2, HQE.out]
  rintro e w6 ⟨A6, c6, rfl, hown6, hb6⟩
  have hbb6 := bt (hbb5.alloc hbb5.size (.cells #[.int .i64 f0, .int .i64 f1, .int .i64 f2, .int .i64 f3, .int .i64 f4] 29)) hb6
  go_wp2_with fail
  refine (same_self A6 A c6 c l _ _ _ hown6.rd (hr.below hbb6) hlm rfl rfl).mono ?_
  rintro e w7 ⟨rfl, hb7⟩
  go_wp2_with fail
  go_ret
  exact ⟨rfl, bt hbb6 hb7⟩
set_option maxHeartbeats 4000000 in
theorem tagBack_nn (rp rg pl ix ic : Int) (A : Option Addr) (c : Nat) (l : List UInt8) (w : World) (hm0 : mayB rp rg pl ix ic = false) (ht0 : tagB l = false)
    (hlen : l.length ≤ 300) (hr : Rd w A l) (hc : l.length ≤ c) (hm : c ≤ maxLen) :
    Calls Try.prog 7 #[.agg #[.int .i64 rp, .int .i64 rg, .int .i64 pl, .int .i64 ix, .int .i64 ic], .slice A l.length c] w (RetV w (.bool true)) := by
  have hlm : l.length ≤ maxLen := by omega
  obtain ⟨L, HL⟩ : ∃ L, Hid (L = tagL rp rg pl ix ic) := ⟨_, Lib.hid rfl⟩
  have hLl : L.length ≤ 15 := by rw [HL.out, tagL_length]; split <;> omega
  have HE : Hid (tagE rp rg pl ix ic = 2) := Lib.hid (by simp [tagE, hm0])
  have HM := Lib.hid hm0
  have HP : Hid (tagW l = .agg #[.int .i64 0, .int .i64 0, .int .i64 0, .int .i64 0, .int .i64 0] ∧ tagP l = 30) := Lib.hid (tagW_none ht0)
  clear hm0 ht0
  go_enter Try.func7, Try.ntmps7
  go_wp2_with fail
  refine (awake_any _).mono ?_
  rintro e w1 ⟨rfl, hb1⟩
  have B1 := (Blk.new w 29 #[.int .i64 rp, .int .i64 rg, .int .i64 pl, .int .i64 ix, .int .i64 ic]).bel hb1
  have hbb : Below w.heap.size w w1 := ((Below.refl _ _).alloc (Nat.le_refl _) _).trans (hb1.mono (by simp))
  clear hb1
  have k0 := B1.c 0 (.int .i64 rp) rfl
  have k1 := B1.c 1 (.int .i64 rg) rfl
  have k2 := B1.c 2 (.int .i64 pl) rfl
  have k3 := B1.c 3 (.int .i64 ix) rfl
  have k4 := B1.c 4 (.int .i64 ic) rfl
  go_wp2_with fail
  refine (print_any _ _ _ _ _ _).mono ?_
  rw [← HL.out, HE.out]
  rintro e w2 ⟨A2, c2, rfl, hown2, hb2⟩
  have B2 := B1.bel hb2
  have hbb2 := bt hbb hb2
  clear hb2 B1 hbb
  clear k0 k1 k2 k3 k4
  have k0 := B2.c 0 (.int .i64 rp) rfl
  have k1 := B2.c 1 (.int .i64 rg) rfl
  have k2 := B2.c 2 (.int .i64 pl) rfl
  have k3 := B2.c 3 (.int .i64 ix) rfl
  have k4 := B2.c 4 (.int .i64 ic) rfl
  go_wp2_with fail
  refine (may_any _ _ _ _ _ _).mono ?_
  rw [HM.out]
  rintro e w3 ⟨rfl, hb3⟩
  have B3 := B2.bel hb3
  have hbb3 := bt hbb2 hb3
  have hown3 := hown2.below hb3
  clear hb3 B2 hbb2 hown2
  clear k0 k1 k2 k3 k4
  go_wp2_with fail
  refine (parse_any A c l _ (hr.below hbb3) hc hm).mono ?_
  rw [HP.out.1, HP.out.2]
  rintro e w5 ⟨rfl, hb5⟩
  have hbb5 := bt hbb3 hb5
  clear hb5
  go_wp2_with fail
  go_ret
  exact ⟨rfl, hbb5.alloc hbb5.size _⟩
set_option maxHeartbeats 1000000 in
theorem tagBack_walk (rp rg pl ix ic : Int) (A : Option Addr) (c : Nat) (l : List UInt8) (w : World) (b0 : -9223372036854775808 ≤ rp) (b1 : rp ≤ 9223372036854775807) (b2 : -9223372036854775808 ≤ rg) (b3 : rg ≤ 9223372036854775807)
    (b4 : -9223372036854775808 ≤ pl) (b5 : pl ≤ 9223372036854775807) (b6 : -9223372036854775808 ≤ ix) (b7 : ix ≤ 9223372036854775807) (b8 : -9223372036854775808 ≤ ic) (b9 : ic ≤ 9223372036854775807)
    (hr : Rd w A l) (hc : l.length ≤ c) (hm : c ≤ maxLen) :
    Calls Try.prog 7 #[.agg #[.int .i64 rp, .int .i64 rg, .int .i64 pl, .int .i64 ix, .int .i64 ic], .slice A l.length c] w (RetV w (.bool true)) := by
  clear b0 b1 b2 b3 b4 b5 b6 b7 b8 b9
  by_cases hlen : l.length ≤ 300
  · cases hm0 : mayB rp rg pl ix ic <;> cases ht0 : tagB l
    · exact tagBack_nn rp rg pl ix ic A c l w hm0 ht0 hlen hr hc hm
    · exact tagBack_ny rp rg pl ix ic A c l w hm0 ht0 hlen hr hc hm
    · exact tagBack_yn rp rg pl ix ic A c l w hm0 ht0 hlen hr hc hm
    · exact tagBack_yy rp rg pl ix ic A c l w hm0 ht0 hlen hr hc hm
  · have : (300 : Int) < l.length := by omega
    clear hlen
    go_enter Try.func7, Try.ntmps7
    go_wp2_with fail
    refine (awake_any _).mono ?_
    rintro e w1 ⟨rfl, hb1⟩
    go_wp2_with fail
    go_ret
    exact ⟨rfl, ((Below.refl _ _).alloc (Nat.le_refl _) _).trans (hb1.mono (by simp))⟩
end Go.Proofs.Ytclnncchbeldcaa
