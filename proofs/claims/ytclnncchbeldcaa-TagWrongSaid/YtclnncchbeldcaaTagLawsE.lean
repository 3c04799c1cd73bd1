/-
  THE WALK OF THE LAW TagWrong.
-/
import Derived.Test.YtclnncchbeldcaaTagLawsC
namespace Go.Proofs.Ytclnncchbeldcaa
open Go.RowKit
set_option linter.unusedVariables false

theorem mayB_no {rp rg pl ix ic : Int} (h : rp < 0 ∨ 6 < rp ∨ pl < 0 ∨ plc rg ≤ pl ∨ ix < 0 ∨ 1099511627776 < ix ∨ ic < 1 ∨ 1099511627776 < ic) : mayB rp rg pl ix ic = false := by
  cases hm : mayB rp rg pl ix ic
  · rfl
  · have := mayB_true hm
    omega
theorem bal {w a : World} (h : Below w.heap.size w a) (o : Obj) : Below w.heap.size w (a.alloc o) := h.alloc h.size o
theorem print_yes {rp rg pl ix ic : Int} (w : World) (hm : mayB rp rg pl ix ic = true) : Calls Try.prog 20 #[.agg #[.int .i64 rp, .int .i64 rg, .int .i64 pl, .int .i64 ix, .int .i64 ic]] w
    fun e w' => ∃ A c, e = .returned (.tuple #[.slice A 15 c, .int .i64 0]) ∧ Below w.heap.size w w' :=
  (print_any rp rg pl ix ic w).mono fun e w' ⟨A, c, he, _, hb⟩ => ⟨A, c, by rw [he, tagL_length, hm]; simp [tagE, hm], hb⟩
theorem print_no {rp rg pl ix ic : Int} (w : World) (hm : mayB rp rg pl ix ic = false) : Calls Try.prog 20 #[.agg #[.int .i64 rp, .int .i64 rg, .int .i64 pl, .int .i64 ix, .int .i64 ic]] w
    fun e w' => ∃ A c, e = .returned (.tuple #[.slice A 0 c, .int .i64 2]) ∧ Below w.heap.size w w' :=
  (print_any rp rg pl ix ic w).mono fun e w' ⟨A, c, he, _, hb⟩ => ⟨A, c, by rw [he, tagL_length, hm]; simp [tagE, hm], hb⟩
theorem may_of {rp rg pl ix ic : Int} {b : Bool} (w : World) (hm : mayB rp rg pl ix ic = b) : Calls Try.prog 19 #[.agg #[.int .i64 rp, .int .i64 rg, .int .i64 pl, .int .i64 ix, .int .i64 ic]] w (RetV w (.bool b)) := by
  subst hm
  exact may_any rp rg pl ix ic w

set_option maxHeartbeats 2000000 in
theorem tagWrong_00 (rp rg pl ix ic : Int) (a1 a2 : Nat) (w : World) (hm0 : mayB rp rg pl ix ic = true) (e1 : a1 % 5 = 0) (e2 : a2 % 4 = 0) :
    Calls Try.prog 4 #[.agg #[.int .i64 rp, .int .i64 rg, .int .i64 pl, .int .i64 ix, .int .i64 ic], .int .u8 a1, .int .u8 a2] w (RetV w (.bool true)) := by
  have f1 : (a1 : Int) % 5 = 0 := by omega
  have f2 : (a2 : Int) % 4 = 0 := by omega
  obtain ⟨g0, g1, g2, g3, g4, g5, g6, g7, g8, g9, g10⟩ := mayB_true hm0
  have HM := Lib.hid hm0
  obtain ⟨P, HP⟩ : ∃ x, Hid (x = plc rg) := ⟨_, Lib.hid rfl⟩
  have hP0 : P ≤ 48 := by rw [HP.out]; exact (plc_bd rg).2.1
  rw [← HP.out] at g5
  clear hm0
  go_enter Try.func4, Try.ntmps4
  go_wp2_with fail
  refine (awake_any _).mono ?_
  rintro e w1 ⟨rfl, hb1⟩
  have B1 := (Blk.new w 29 #[.int .i64 rp, .int .i64 rg, .int .i64 pl, .int .i64 ix, .int .i64 ic]).bel hb1
  have hbb : Below w.heap.size w w1 := ((Below.refl _ _).alloc (Nat.le_refl _) _).trans (hb1.mono (by simp))
  clear hb1
  have k0 := B1.c 0 (.int .i64 rp) rfl
  have k1 := B1.c 1 (.int .i64 rg) rfl
  have k2 := B1.c 2 (.int .i64 pl) rfl
  have k3 := B1.c 3 (.int .i64 ix) rfl
  have k4 := B1.c 4 (.int .i64 ic) rfl
  go_wp2_with fail
  refine (may_of _ HM.out).mono ?_
  rintro e w1' ⟨rfl, hb1⟩
  have B1' := B1.bel hb1
  have hbb' := bt hbb hb1
  clear hb1 B1 hbb k0 k1 k2 k3 k4
  have k1 := B1'.c 1 (.int .i64 rg) rfl
  go_wp2_with fail
  refine (places_any _ _).mono ?_
  rw [← HP.out]
  rintro e w2 ⟨rfl, hb2⟩
  have B2 := B1'.bel hb2
  have hbb2 := bt hbb' hb2
  clear hb2 B1' hbb' k1
  have k0 := B2.c 0 (.int .i64 rp) rfl
  have k1 := B2.c 1 (.int .i64 rg) rfl
  have k2 := B2.c 2 (.int .i64 pl) rfl
  have k3 := B2.c 3 (.int .i64 ix) rfl
  have k4 := B2.c 4 (.int .i64 ic) rfl
  have fz := B2.frozen
  have hz := B2.lt
  have hz1 : w.heap.size < w2.heap.size + 1 := by omega
  have hz2 : w.heap.size < w2.heap.size + 1 + 1 := by omega
  go_wp2_with fail
  refine (print_no _ ?_).mono ?_
  · exact mayB_no (by rw [← HP.out]; omega)
  rintro e w3 ⟨A3, c3, rfl, hb3⟩
  have B3 := ((((B2.set 0 _).alloc _).alloc _).alloc _).bel hb3
  clear k0 k1 k2 k3 k4
  have k0 := B3.c 0 _ rfl
  have k1 := B3.c 1 _ rfl
  have k2 := B3.c 2 _ rfl
  have k3 := B3.c 3 _ rfl
  have k4 := B3.c 4 _ rfl
  have hbb3 := (bal (bal (bal (hbb2.setCell (Nat.le_refl _) _) _) _) _).trans (hb3.mono (by simp; omega))
  go_wp2_with fail
  refine (may_of (b := false) _ ?_).mono ?_
  · exact mayB_no (by rw [← HP.out]; omega)
  rintro e w4 ⟨rfl, hb4⟩
  go_wp2_with fail
  go_ret
  exact ⟨rfl, bt hbb3 hb4⟩
set_option maxHeartbeats 2000000 in
theorem tagWrong_01 (rp rg pl ix ic : Int) (a1 a2 : Nat) (w : World) (hm0 : mayB rp rg pl ix ic = true) (e1 : a1 % 5 = 0) (e2 : a2 % 4 = 1) :
    Calls Try.prog 4 #[.agg #[.int .i64 rp, .int .i64 rg, .int .i64 pl, .int .i64 ix, .int .i64 ic], .int .u8 a1, .int .u8 a2] w (RetV w (.bool true)) := by
  have f1 : (a1 : Int) % 5 = 0 := by omega
  have f2 : (a2 : Int) % 4 = 1 := by omega
  obtain ⟨g0, g1, g2, g3, g4, g5, g6, g7, g8, g9, g10⟩ := mayB_true hm0
  have HM := Lib.hid hm0
  obtain ⟨P, HP⟩ : ∃ x, Hid (x = plc rg) := ⟨_, Lib.hid rfl⟩
  have hP0 : P ≤ 48 := by rw [HP.out]; exact (plc_bd rg).2.1
  rw [← HP.out] at g5
  clear hm0
  go_enter Try.func4, Try.ntmps4
  go_wp2_with fail
  refine (awake_any _).mono ?_
  rintro e w1 ⟨rfl, hb1⟩
  have B1 := (Blk.new w 29 #[.int .i64 rp, .int .i64 rg, .int .i64 pl, .int .i64 ix, .int .i64 ic]).bel hb1
  have hbb : Below w.heap.size w w1 := ((Below.refl _ _).alloc (Nat.le_refl _) _).trans (hb1.mono (by simp))
  clear hb1
  have k0 := B1.c 0 (.int .i64 rp) rfl
  have k1 := B1.c 1 (.int .i64 rg) rfl
  have k2 := B1.c 2 (.int .i64 pl) rfl
  have k3 := B1.c 3 (.int .i64 ix) rfl
  have k4 := B1.c 4 (.int .i64 ic) rfl
  go_wp2_with fail
  refine (may_of _ HM.out).mono ?_
  rintro e w1' ⟨rfl, hb1⟩
  have B1' := B1.bel hb1
  have hbb' := bt hbb hb1
  clear hb1 B1 hbb k0 k1 k2 k3 k4
  have k1 := B1'.c 1 (.int .i64 rg) rfl
  go_wp2_with fail
  refine (places_any _ _).mono ?_
  rw [← HP.out]
  rintro e w2 ⟨rfl, hb2⟩
  have B2 := B1'.bel hb2
  have hbb2 := bt hbb' hb2
  clear hb2 B1' hbb' k1
  have k0 := B2.c 0 (.int .i64 rp) rfl
  have k1 := B2.c 1 (.int .i64 rg) rfl
  have k2 := B2.c 2 (.int .i64 pl) rfl
  have k3 := B2.c 3 (.int .i64 ix) rfl
  have k4 := B2.c 4 (.int .i64 ic) rfl
  have fz := B2.frozen
  have hz := B2.lt
  have hz1 : w.heap.size < w2.heap.size + 1 := by omega
  have hz2 : w.heap.size < w2.heap.size + 1 + 1 := by omega
  go_wp2_with fail
  refine (print_yes _ ?_).mono ?_
  · exact mayB_mk (by omega) (by omega) (by omega) (by rw [← HP.out]; omega) (by omega) (by omega) (by omega) (by omega)
  rintro e w3 ⟨A3, c3, rfl, hb3⟩
  have B3 := ((((B2.set 0 _).alloc _).alloc _).alloc _).bel hb3
  clear k0 k1 k2 k3 k4
  have k0 := B3.c 0 _ rfl
  have k1 := B3.c 1 _ rfl
  have k2 := B3.c 2 _ rfl
  have k3 := B3.c 3 _ rfl
  have k4 := B3.c 4 _ rfl
  have hbb3 := (bal (bal (bal (hbb2.setCell (Nat.le_refl _) _) _) _) _).trans (hb3.mono (by simp; omega))
  go_wp2_with fail
  refine (may_of (b := true) _ ?_).mono ?_
  · exact mayB_mk (by omega) (by omega) (by omega) (by rw [← HP.out]; omega) (by omega) (by omega) (by omega) (by omega)
  rintro e w4 ⟨rfl, hb4⟩
  go_wp2_with fail
  go_ret
  exact ⟨rfl, bt hbb3 hb4⟩
set_option maxHeartbeats 2000000 in
theorem tagWrong_02 (rp rg pl ix ic : Int) (a1 a2 : Nat) (w : World) (hm0 : mayB rp rg pl ix ic = true) (e1 : a1 % 5 = 0) (e2 : a2 % 4 = 2) :
    Calls Try.prog 4 #[.agg #[.int .i64 rp, .int .i64 rg, .int .i64 pl, .int .i64 ix, .int .i64 ic], .int .u8 a1, .int .u8 a2] w (RetV w (.bool true)) := by
  have f1 : (a1 : Int) % 5 = 0 := by omega
  have f2 : (a2 : Int) % 4 = 2 := by omega
  obtain ⟨g0, g1, g2, g3, g4, g5, g6, g7, g8, g9, g10⟩ := mayB_true hm0
  have HM := Lib.hid hm0
  obtain ⟨P, HP⟩ : ∃ x, Hid (x = plc rg) := ⟨_, Lib.hid rfl⟩
  have hP0 : P ≤ 48 := by rw [HP.out]; exact (plc_bd rg).2.1
  rw [← HP.out] at g5
  clear hm0
  go_enter Try.func4, Try.ntmps4
  go_wp2_with fail
  refine (awake_any _).mono ?_
  rintro e w1 ⟨rfl, hb1⟩
  have B1 := (Blk.new w 29 #[.int .i64 rp, .int .i64 rg, .int .i64 pl, .int .i64 ix, .int .i64 ic]).bel hb1
  have hbb : Below w.heap.size w w1 := ((Below.refl _ _).alloc (Nat.le_refl _) _).trans (hb1.mono (by simp))
  clear hb1
  have k0 := B1.c 0 (.int .i64 rp) rfl
  have k1 := B1.c 1 (.int .i64 rg) rfl
  have k2 := B1.c 2 (.int .i64 pl) rfl
  have k3 := B1.c 3 (.int .i64 ix) rfl
  have k4 := B1.c 4 (.int .i64 ic) rfl
  go_wp2_with fail
  refine (may_of _ HM.out).mono ?_
  rintro e w1' ⟨rfl, hb1⟩
  have B1' := B1.bel hb1
  have hbb' := bt hbb hb1
  clear hb1 B1 hbb k0 k1 k2 k3 k4
  have k1 := B1'.c 1 (.int .i64 rg) rfl
  go_wp2_with fail
  refine (places_any _ _).mono ?_
  rw [← HP.out]
  rintro e w2 ⟨rfl, hb2⟩
  have B2 := B1'.bel hb2
  have hbb2 := bt hbb' hb2
  clear hb2 B1' hbb' k1
  have k0 := B2.c 0 (.int .i64 rp) rfl
  have k1 := B2.c 1 (.int .i64 rg) rfl
  have k2 := B2.c 2 (.int .i64 pl) rfl
  have k3 := B2.c 3 (.int .i64 ix) rfl
  have k4 := B2.c 4 (.int .i64 ic) rfl
  have fz := B2.frozen
  have hz := B2.lt
  have hz1 : w.heap.size < w2.heap.size + 1 := by omega
  have hz2 : w.heap.size < w2.heap.size + 1 + 1 := by omega
  go_wp2_with fail
  refine (print_yes _ ?_).mono ?_
  · exact mayB_mk (by omega) (by omega) (by omega) (by rw [← HP.out]; omega) (by omega) (by omega) (by omega) (by omega)
  rintro e w3 ⟨A3, c3, rfl, hb3⟩
  have B3 := ((((B2.set 0 _).alloc _).alloc _).alloc _).bel hb3
  clear k0 k1 k2 k3 k4
  have k0 := B3.c 0 _ rfl
  have k1 := B3.c 1 _ rfl
  have k2 := B3.c 2 _ rfl
  have k3 := B3.c 3 _ rfl
  have k4 := B3.c 4 _ rfl
  have hbb3 := (bal (bal (bal (hbb2.setCell (Nat.le_refl _) _) _) _) _).trans (hb3.mono (by simp; omega))
  go_wp2_with fail
  refine (may_of (b := true) _ ?_).mono ?_
  · exact mayB_mk (by omega) (by omega) (by omega) (by rw [← HP.out]; omega) (by omega) (by omega) (by omega) (by omega)
  rintro e w4 ⟨rfl, hb4⟩
  go_wp2_with fail
  go_ret
  exact ⟨rfl, bt hbb3 hb4⟩
set_option maxHeartbeats 2000000 in
theorem tagWrong_03 (rp rg pl ix ic : Int) (a1 a2 : Nat) (w : World) (hm0 : mayB rp rg pl ix ic = true) (e1 : a1 % 5 = 0) (e2 : a2 % 4 = 3) :
    Calls Try.prog 4 #[.agg #[.int .i64 rp, .int .i64 rg, .int .i64 pl, .int .i64 ix, .int .i64 ic], .int .u8 a1, .int .u8 a2] w (RetV w (.bool true)) := by
  have f1 : (a1 : Int) % 5 = 0 := by omega
  have f2 : (a2 : Int) % 4 = 3 := by omega
  obtain ⟨g0, g1, g2, g3, g4, g5, g6, g7, g8, g9, g10⟩ := mayB_true hm0
  have HM := Lib.hid hm0
  obtain ⟨P, HP⟩ : ∃ x, Hid (x = plc rg) := ⟨_, Lib.hid rfl⟩
  have hP0 : P ≤ 48 := by rw [HP.out]; exact (plc_bd rg).2.1
  rw [← HP.out] at g5
  clear hm0
  go_enter Try.func4, Try.ntmps4
  go_wp2_with fail
  refine (awake_any _).mono ?_
  rintro e w1 ⟨rfl, hb1⟩
  have B1 := (Blk.new w 29 #[.int .i64 rp, .int .i64 rg, .int .i64 pl, .int .i64 ix, .int .i64 ic]).bel hb1
  have hbb : Below w.heap.size w w1 := ((Below.refl _ _).alloc (Nat.le_refl _) _).trans (hb1.mono (by simp))
  clear hb1
  have k0 := B1.c 0 (.int .i64 rp) rfl
  have k1 := B1.c 1 (.int .i64 rg) rfl
  have k2 := B1.c 2 (.int .i64 pl) rfl
  have k3 := B1.c 3 (.int .i64 ix) rfl
  have k4 := B1.c 4 (.int .i64 ic) rfl
  go_wp2_with fail
  refine (may_of _ HM.out).mono ?_
  rintro e w1' ⟨rfl, hb1⟩
  have B1' := B1.bel hb1
  have hbb' := bt hbb hb1
  clear hb1 B1 hbb k0 k1 k2 k3 k4
  have k1 := B1'.c 1 (.int .i64 rg) rfl
  go_wp2_with fail
  refine (places_any _ _).mono ?_
  rw [← HP.out]
  rintro e w2 ⟨rfl, hb2⟩
  have B2 := B1'.bel hb2
  have hbb2 := bt hbb' hb2
  clear hb2 B1' hbb' k1
  have k0 := B2.c 0 (.int .i64 rp) rfl
  have k1 := B2.c 1 (.int .i64 rg) rfl
  have k2 := B2.c 2 (.int .i64 pl) rfl
  have k3 := B2.c 3 (.int .i64 ix) rfl
  have k4 := B2.c 4 (.int .i64 ic) rfl
  have fz := B2.frozen
  have hz := B2.lt
  have hz1 : w.heap.size < w2.heap.size + 1 := by omega
  have hz2 : w.heap.size < w2.heap.size + 1 + 1 := by omega
  go_wp2_with fail
  refine (print_no _ ?_).mono ?_
  · exact mayB_no (by rw [← HP.out]; omega)
  rintro e w3 ⟨A3, c3, rfl, hb3⟩
  have B3 := ((((B2.set 0 _).alloc _).alloc _).alloc _).bel hb3
  clear k0 k1 k2 k3 k4
  have k0 := B3.c 0 _ rfl
  have k1 := B3.c 1 _ rfl
  have k2 := B3.c 2 _ rfl
  have k3 := B3.c 3 _ rfl
  have k4 := B3.c 4 _ rfl
  have hbb3 := (bal (bal (bal (hbb2.setCell (Nat.le_refl _) _) _) _) _).trans (hb3.mono (by simp; omega))
  go_wp2_with fail
  refine (may_of (b := false) _ ?_).mono ?_
  · exact mayB_no (by rw [← HP.out]; omega)
  rintro e w4 ⟨rfl, hb4⟩
  go_wp2_with fail
  go_ret
  exact ⟨rfl, bt hbb3 hb4⟩
set_option maxHeartbeats 2000000 in
theorem tagWrong_10 (rp rg pl ix ic : Int) (a1 a2 : Nat) (w : World) (hm0 : mayB rp rg pl ix ic = true) (e1 : a1 % 5 = 1) (e2 : a2 % 4 = 0) :
    Calls Try.prog 4 #[.agg #[.int .i64 rp, .int .i64 rg, .int .i64 pl, .int .i64 ix, .int .i64 ic], .int .u8 a1, .int .u8 a2] w (RetV w (.bool true)) := by
  have f1 : (a1 : Int) % 5 = 1 := by omega
  have f2 : (a2 : Int) % 4 = 0 := by omega
  obtain ⟨g0, g1, g2, g3, g4, g5, g6, g7, g8, g9, g10⟩ := mayB_true hm0
  have HM := Lib.hid hm0
  obtain ⟨P, HP⟩ : ∃ x, Hid (x = plc rg) := ⟨_, Lib.hid rfl⟩
  have hP0 : P ≤ 48 := by rw [HP.out]; exact (plc_bd rg).2.1
  rw [← HP.out] at g5
  clear hm0
  go_enter Try.func4, Try.ntmps4
  go_wp2_with fail
  refine (awake_any _).mono ?_
  rintro e w1 ⟨rfl, hb1⟩
  have B1 := (Blk.new w 29 #[.int .i64 rp, .int .i64 rg, .int .i64 pl, .int .i64 ix, .int .i64 ic]).bel hb1
  have hbb : Below w.heap.size w w1 := ((Below.refl _ _).alloc (Nat.le_refl _) _).trans (hb1.mono (by simp))
  clear hb1
  have k0 := B1.c 0 (.int .i64 rp) rfl
  have k1 := B1.c 1 (.int .i64 rg) rfl
  have k2 := B1.c 2 (.int .i64 pl) rfl
  have k3 := B1.c 3 (.int .i64 ix) rfl
  have k4 := B1.c 4 (.int .i64 ic) rfl
  go_wp2_with fail
  refine (may_of _ HM.out).mono ?_
  rintro e w1' ⟨rfl, hb1⟩
  have B1' := B1.bel hb1
  have hbb' := bt hbb hb1
  clear hb1 B1 hbb k0 k1 k2 k3 k4
  have k1 := B1'.c 1 (.int .i64 rg) rfl
  go_wp2_with fail
  refine (places_any _ _).mono ?_
  rw [← HP.out]
  rintro e w2 ⟨rfl, hb2⟩
  have B2 := B1'.bel hb2
  have hbb2 := bt hbb' hb2
  clear hb2 B1' hbb' k1
  have k0 := B2.c 0 (.int .i64 rp) rfl
  have k1 := B2.c 1 (.int .i64 rg) rfl
  have k2 := B2.c 2 (.int .i64 pl) rfl
  have k3 := B2.c 3 (.int .i64 ix) rfl
  have k4 := B2.c 4 (.int .i64 ic) rfl
  have fz := B2.frozen
  have hz := B2.lt
  have hz1 : w.heap.size < w2.heap.size + 1 := by omega
  have hz2 : w.heap.size < w2.heap.size + 1 + 1 := by omega
  go_wp2_with fail
  refine (print_no _ ?_).mono ?_
  · exact mayB_no (.inr (.inr (.inr (.inl (by decide)))))
  rintro e w3 ⟨A3, c3, rfl, hb3⟩
  have B3 := (((((B2.set 1 _).set 2 _).alloc _).alloc _).alloc _).bel hb3
  clear k0 k1 k2 k3 k4
  have k0 := B3.c 0 _ rfl
  have k1 := B3.c 1 _ rfl
  have k2 := B3.c 2 _ rfl
  have k3 := B3.c 3 _ rfl
  have k4 := B3.c 4 _ rfl
  have hbb3 := (bal (bal (bal ((hbb2.setCell (Nat.le_refl _) _).setCell (Nat.le_refl _) _) _) _) _).trans (hb3.mono (by simp; omega))
  go_wp2_with fail
  refine (may_of (b := false) _ ?_).mono ?_
  · exact mayB_no (.inr (.inr (.inr (.inl (by decide)))))
  rintro e w4 ⟨rfl, hb4⟩
  go_wp2_with fail
  go_ret
  exact ⟨rfl, bt hbb3 hb4⟩
set_option maxHeartbeats 2000000 in
theorem tagWrong_11 (rp rg pl ix ic : Int) (a1 a2 : Nat) (w : World) (hm0 : mayB rp rg pl ix ic = true) (e1 : a1 % 5 = 1) (e2 : a2 % 4 = 1) :
    Calls Try.prog 4 #[.agg #[.int .i64 rp, .int .i64 rg, .int .i64 pl, .int .i64 ix, .int .i64 ic], .int .u8 a1, .int .u8 a2] w (RetV w (.bool true)) := by
  have f1 : (a1 : Int) % 5 = 1 := by omega
  have f2 : (a2 : Int) % 4 = 1 := by omega
  obtain ⟨g0, g1, g2, g3, g4, g5, g6, g7, g8, g9, g10⟩ := mayB_true hm0
  have HM := Lib.hid hm0
  obtain ⟨P, HP⟩ : ∃ x, Hid (x = plc rg) := ⟨_, Lib.hid rfl⟩
  have hP0 : P ≤ 48 := by rw [HP.out]; exact (plc_bd rg).2.1
  rw [← HP.out] at g5
  clear hm0
  go_enter Try.func4, Try.ntmps4
  go_wp2_with fail
  refine (awake_any _).mono ?_
  rintro e w1 ⟨rfl, hb1⟩
  have B1 := (Blk.new w 29 #[.int .i64 rp, .int .i64 rg, .int .i64 pl, .int .i64 ix, .int .i64 ic]).bel hb1
  have hbb : Below w.heap.size w w1 := ((Below.refl _ _).alloc (Nat.le_refl _) _).trans (hb1.mono (by simp))
  clear hb1
  have k0 := B1.c 0 (.int .i64 rp) rfl
  have k1 := B1.c 1 (.int .i64 rg) rfl
  have k2 := B1.c 2 (.int .i64 pl) rfl
  have k3 := B1.c 3 (.int .i64 ix) rfl
  have k4 := B1.c 4 (.int .i64 ic) rfl
  go_wp2_with fail
  refine (may_of _ HM.out).mono ?_
  rintro e w1' ⟨rfl, hb1⟩
  have B1' := B1.bel hb1
  have hbb' := bt hbb hb1
  clear hb1 B1 hbb k0 k1 k2 k3 k4
  have k1 := B1'.c 1 (.int .i64 rg) rfl
  go_wp2_with fail
  refine (places_any _ _).mono ?_
  rw [← HP.out]
  rintro e w2 ⟨rfl, hb2⟩
  have B2 := B1'.bel hb2
  have hbb2 := bt hbb' hb2
  clear hb2 B1' hbb' k1
  have k0 := B2.c 0 (.int .i64 rp) rfl
  have k1 := B2.c 1 (.int .i64 rg) rfl
  have k2 := B2.c 2 (.int .i64 pl) rfl
  have k3 := B2.c 3 (.int .i64 ix) rfl
  have k4 := B2.c 4 (.int .i64 ic) rfl
  have fz := B2.frozen
  have hz := B2.lt
  have hz1 : w.heap.size < w2.heap.size + 1 := by omega
  have hz2 : w.heap.size < w2.heap.size + 1 + 1 := by omega
  go_wp2_with fail
  refine (print_yes _ ?_).mono ?_
  · exact mayB_mk (by omega) (by omega) (by omega) (by decide) (by omega) (by omega) (by omega) (by omega)
  rintro e w3 ⟨A3, c3, rfl, hb3⟩
  have B3 := (((((B2.set 1 _).set 2 _).alloc _).alloc _).alloc _).bel hb3
  clear k0 k1 k2 k3 k4
  have k0 := B3.c 0 _ rfl
  have k1 := B3.c 1 _ rfl
  have k2 := B3.c 2 _ rfl
  have k3 := B3.c 3 _ rfl
  have k4 := B3.c 4 _ rfl
  have hbb3 := (bal (bal (bal ((hbb2.setCell (Nat.le_refl _) _).setCell (Nat.le_refl _) _) _) _) _).trans (hb3.mono (by simp; omega))
  go_wp2_with fail
  refine (may_of (b := true) _ ?_).mono ?_
  · exact mayB_mk (by omega) (by omega) (by omega) (by decide) (by omega) (by omega) (by omega) (by omega)
  rintro e w4 ⟨rfl, hb4⟩
  go_wp2_with fail
  go_ret
  exact ⟨rfl, bt hbb3 hb4⟩
set_option maxHeartbeats 2000000 in
theorem tagWrong_12 (rp rg pl ix ic : Int) (a1 a2 : Nat) (w : World) (hm0 : mayB rp rg pl ix ic = true) (e1 : a1 % 5 = 1) (e2 : a2 % 4 = 2) :
    Calls Try.prog 4 #[.agg #[.int .i64 rp, .int .i64 rg, .int .i64 pl, .int .i64 ix, .int .i64 ic], .int .u8 a1, .int .u8 a2] w (RetV w (.bool true)) := by
  have f1 : (a1 : Int) % 5 = 1 := by omega
  have f2 : (a2 : Int) % 4 = 2 := by omega
  obtain ⟨g0, g1, g2, g3, g4, g5, g6, g7, g8, g9, g10⟩ := mayB_true hm0
  have HM := Lib.hid hm0
  obtain ⟨P, HP⟩ : ∃ x, Hid (x = plc rg) := ⟨_, Lib.hid rfl⟩
  have hP0 : P ≤ 48 := by rw [HP.out]; exact (plc_bd rg).2.1
  rw [← HP.out] at g5
  clear hm0
  go_enter Try.func4, Try.ntmps4
  go_wp2_with fail
  refine (awake_any _).mono ?_
  rintro e w1 ⟨rfl, hb1⟩
  have B1 := (Blk.new w 29 #[.int .i64 rp, .int .i64 rg, .int .i64 pl, .int .i64 ix, .int .i64 ic]).bel hb1
  have hbb : Below w.heap.size w w1 := ((Below.refl _ _).alloc (Nat.le_refl _) _).trans (hb1.mono (by simp))
  clear hb1
  have k0 := B1.c 0 (.int .i64 rp) rfl
  have k1 := B1.c 1 (.int .i64 rg) rfl
  have k2 := B1.c 2 (.int .i64 pl) rfl
  have k3 := B1.c 3 (.int .i64 ix) rfl
  have k4 := B1.c 4 (.int .i64 ic) rfl
  go_wp2_with fail
  refine (may_of _ HM.out).mono ?_
  rintro e w1' ⟨rfl, hb1⟩
  have B1' := B1.bel hb1
  have hbb' := bt hbb hb1
  clear hb1 B1 hbb k0 k1 k2 k3 k4
  have k1 := B1'.c 1 (.int .i64 rg) rfl
  go_wp2_with fail
  refine (places_any _ _).mono ?_
  rw [← HP.out]
  rintro e w2 ⟨rfl, hb2⟩
  have B2 := B1'.bel hb2
  have hbb2 := bt hbb' hb2
  clear hb2 B1' hbb' k1
  have k0 := B2.c 0 (.int .i64 rp) rfl
  have k1 := B2.c 1 (.int .i64 rg) rfl
  have k2 := B2.c 2 (.int .i64 pl) rfl
  have k3 := B2.c 3 (.int .i64 ix) rfl
  have k4 := B2.c 4 (.int .i64 ic) rfl
  have fz := B2.frozen
  have hz := B2.lt
  have hz1 : w.heap.size < w2.heap.size + 1 := by omega
  have hz2 : w.heap.size < w2.heap.size + 1 + 1 := by omega
  go_wp2_with fail
  refine (print_yes _ ?_).mono ?_
  · exact mayB_mk (by omega) (by omega) (by omega) (by decide) (by omega) (by omega) (by omega) (by omega)
  rintro e w3 ⟨A3, c3, rfl, hb3⟩
  have B3 := (((((B2.set 1 _).set 2 _).alloc _).alloc _).alloc _).bel hb3
  clear k0 k1 k2 k3 k4
  have k0 := B3.c 0 _ rfl
  have k1 := B3.c 1 _ rfl
  have k2 := B3.c 2 _ rfl
  have k3 := B3.c 3 _ rfl
  have k4 := B3.c 4 _ rfl
  have hbb3 := (bal (bal (bal ((hbb2.setCell (Nat.le_refl _) _).setCell (Nat.le_refl _) _) _) _) _).trans (hb3.mono (by simp; omega))
  go_wp2_with fail
  refine (may_of (b := true) _ ?_).mono ?_
  · exact mayB_mk (by omega) (by omega) (by omega) (by decide) (by omega) (by omega) (by omega) (by omega)
  rintro e w4 ⟨rfl, hb4⟩
  go_wp2_with fail
  go_ret
  exact ⟨rfl, bt hbb3 hb4⟩
set_option maxHeartbeats 2000000 in
theorem tagWrong_13 (rp rg pl ix ic : Int) (a1 a2 : Nat) (w : World) (hm0 : mayB rp rg pl ix ic = true) (e1 : a1 % 5 = 1) (e2 : a2 % 4 = 3) :
    Calls Try.prog 4 #[.agg #[.int .i64 rp, .int .i64 rg, .int .i64 pl, .int .i64 ix, .int .i64 ic], .int .u8 a1, .int .u8 a2] w (RetV w (.bool true)) := by
  have f1 : (a1 : Int) % 5 = 1 := by omega
  have f2 : (a2 : Int) % 4 = 3 := by omega
  obtain ⟨g0, g1, g2, g3, g4, g5, g6, g7, g8, g9, g10⟩ := mayB_true hm0
  have HM := Lib.hid hm0
  obtain ⟨P, HP⟩ : ∃ x, Hid (x = plc rg) := ⟨_, Lib.hid rfl⟩
  have hP0 : P ≤ 48 := by rw [HP.out]; exact (plc_bd rg).2.1
  rw [← HP.out] at g5
  clear hm0
  go_enter Try.func4, Try.ntmps4
  go_wp2_with fail
  refine (awake_any _).mono ?_
  rintro e w1 ⟨rfl, hb1⟩
  have B1 := (Blk.new w 29 #[.int .i64 rp, .int .i64 rg, .int .i64 pl, .int .i64 ix, .int .i64 ic]).bel hb1
  have hbb : Below w.heap.size w w1 := ((Below.refl _ _).alloc (Nat.le_refl _) _).trans (hb1.mono (by simp))
  clear hb1
  have k0 := B1.c 0 (.int .i64 rp) rfl
  have k1 := B1.c 1 (.int .i64 rg) rfl
  have k2 := B1.c 2 (.int .i64 pl) rfl
  have k3 := B1.c 3 (.int .i64 ix) rfl
  have k4 := B1.c 4 (.int .i64 ic) rfl
  go_wp2_with fail
  refine (may_of _ HM.out).mono ?_
  rintro e w1' ⟨rfl, hb1⟩
  have B1' := B1.bel hb1
  have hbb' := bt hbb hb1
  clear hb1 B1 hbb k0 k1 k2 k3 k4
  have k1 := B1'.c 1 (.int .i64 rg) rfl
  go_wp2_with fail
  refine (places_any _ _).mono ?_
  rw [← HP.out]
  rintro e w2 ⟨rfl, hb2⟩
  have B2 := B1'.bel hb2
  have hbb2 := bt hbb' hb2
  clear hb2 B1' hbb' k1
  have k0 := B2.c 0 (.int .i64 rp) rfl
  have k1 := B2.c 1 (.int .i64 rg) rfl
  have k2 := B2.c 2 (.int .i64 pl) rfl
  have k3 := B2.c 3 (.int .i64 ix) rfl
  have k4 := B2.c 4 (.int .i64 ic) rfl
  have fz := B2.frozen
  have hz := B2.lt
  have hz1 : w.heap.size < w2.heap.size + 1 := by omega
  have hz2 : w.heap.size < w2.heap.size + 1 + 1 := by omega
  go_wp2_with fail
  refine (print_no _ ?_).mono ?_
  · exact mayB_no (.inr (.inr (.inr (.inl (by decide)))))
  rintro e w3 ⟨A3, c3, rfl, hb3⟩
  have B3 := (((((B2.set 1 _).set 2 _).alloc _).alloc _).alloc _).bel hb3
  clear k0 k1 k2 k3 k4
  have k0 := B3.c 0 _ rfl
  have k1 := B3.c 1 _ rfl
  have k2 := B3.c 2 _ rfl
  have k3 := B3.c 3 _ rfl
  have k4 := B3.c 4 _ rfl
  have hbb3 := (bal (bal (bal ((hbb2.setCell (Nat.le_refl _) _).setCell (Nat.le_refl _) _) _) _) _).trans (hb3.mono (by simp; omega))
  go_wp2_with fail
  refine (may_of (b := false) _ ?_).mono ?_
  · exact mayB_no (.inr (.inr (.inr (.inl (by decide)))))
  rintro e w4 ⟨rfl, hb4⟩
  go_wp2_with fail
  go_ret
  exact ⟨rfl, bt hbb3 hb4⟩
set_option maxHeartbeats 2000000 in
theorem tagWrong_20 (rp rg pl ix ic : Int) (a1 a2 : Nat) (w : World) (hm0 : mayB rp rg pl ix ic = true) (e1 : a1 % 5 = 2) (e2 : a2 % 4 = 0) :
    Calls Try.prog 4 #[.agg #[.int .i64 rp, .int .i64 rg, .int .i64 pl, .int .i64 ix, .int .i64 ic], .int .u8 a1, .int .u8 a2] w (RetV w (.bool true)) := by
  have f1 : (a1 : Int) % 5 = 2 := by omega
  have f2 : (a2 : Int) % 4 = 0 := by omega
  obtain ⟨g0, g1, g2, g3, g4, g5, g6, g7, g8, g9, g10⟩ := mayB_true hm0
  have HM := Lib.hid hm0
  obtain ⟨P, HP⟩ : ∃ x, Hid (x = plc rg) := ⟨_, Lib.hid rfl⟩
  have hP0 : P ≤ 48 := by rw [HP.out]; exact (plc_bd rg).2.1
  rw [← HP.out] at g5
  clear hm0
  go_enter Try.func4, Try.ntmps4
  go_wp2_with fail
  refine (awake_any _).mono ?_
  rintro e w1 ⟨rfl, hb1⟩
  have B1 := (Blk.new w 29 #[.int .i64 rp, .int .i64 rg, .int .i64 pl, .int .i64 ix, .int .i64 ic]).bel hb1
  have hbb : Below w.heap.size w w1 := ((Below.refl _ _).alloc (Nat.le_refl _) _).trans (hb1.mono (by simp))
  clear hb1
  have k0 := B1.c 0 (.int .i64 rp) rfl
  have k1 := B1.c 1 (.int .i64 rg) rfl
  have k2 := B1.c 2 (.int .i64 pl) rfl
  have k3 := B1.c 3 (.int .i64 ix) rfl
  have k4 := B1.c 4 (.int .i64 ic) rfl
  go_wp2_with fail
  refine (may_of _ HM.out).mono ?_
  rintro e w1' ⟨rfl, hb1⟩
  have B1' := B1.bel hb1
  have hbb' := bt hbb hb1
  clear hb1 B1 hbb k0 k1 k2 k3 k4
  have k1 := B1'.c 1 (.int .i64 rg) rfl
  go_wp2_with fail
  refine (places_any _ _).mono ?_
  rw [← HP.out]
  rintro e w2 ⟨rfl, hb2⟩
  have B2 := B1'.bel hb2
  have hbb2 := bt hbb' hb2
  clear hb2 B1' hbb' k1
  have k0 := B2.c 0 (.int .i64 rp) rfl
  have k1 := B2.c 1 (.int .i64 rg) rfl
  have k2 := B2.c 2 (.int .i64 pl) rfl
  have k3 := B2.c 3 (.int .i64 ix) rfl
  have k4 := B2.c 4 (.int .i64 ic) rfl
  have fz := B2.frozen
  have hz := B2.lt
  have hz1 : w.heap.size < w2.heap.size + 1 := by omega
  have hz2 : w.heap.size < w2.heap.size + 1 + 1 := by omega
  go_wp2_with fail
  refine (print_no _ ?_).mono ?_
  · exact mayB_no (by rw [← HP.out]; omega)
  rintro e w3 ⟨A3, c3, rfl, hb3⟩
  have B3 := ((((B2.set 2 _).alloc _).alloc _).alloc _).bel hb3
  clear k0 k1 k2 k3 k4
  have k0 := B3.c 0 _ rfl
  have k1 := B3.c 1 _ rfl
  have k2 := B3.c 2 _ rfl
  have k3 := B3.c 3 _ rfl
  have k4 := B3.c 4 _ rfl
  have hbb3 := (bal (bal (bal (hbb2.setCell (Nat.le_refl _) _) _) _) _).trans (hb3.mono (by simp; omega))
  go_wp2_with fail
  refine (may_of (b := false) _ ?_).mono ?_
  · exact mayB_no (by rw [← HP.out]; omega)
  rintro e w4 ⟨rfl, hb4⟩
  go_wp2_with fail
  go_ret
  exact ⟨rfl, bt hbb3 hb4⟩
set_option maxHeartbeats 2000000 in
theorem tagWrong_21 (rp rg pl ix ic : Int) (a1 a2 : Nat) (w : World) (hm0 : mayB rp rg pl ix ic = true) (e1 : a1 % 5 = 2) (e2 : a2 % 4 = 1) :
    Calls Try.prog 4 #[.agg #[.int .i64 rp, .int .i64 rg, .int .i64 pl, .int .i64 ix, .int .i64 ic], .int .u8 a1, .int .u8 a2] w (RetV w (.bool true)) := by
  have f1 : (a1 : Int) % 5 = 2 := by omega
  have f2 : (a2 : Int) % 4 = 1 := by omega
  obtain ⟨g0, g1, g2, g3, g4, g5, g6, g7, g8, g9, g10⟩ := mayB_true hm0
  have HM := Lib.hid hm0
  obtain ⟨P, HP⟩ : ∃ x, Hid (x = plc rg) := ⟨_, Lib.hid rfl⟩
  have hP0 : P ≤ 48 := by rw [HP.out]; exact (plc_bd rg).2.1
  rw [← HP.out] at g5
  clear hm0
  go_enter Try.func4, Try.ntmps4
  go_wp2_with fail
  refine (awake_any _).mono ?_
  rintro e w1 ⟨rfl, hb1⟩
  have B1 := (Blk.new w 29 #[.int .i64 rp, .int .i64 rg, .int .i64 pl, .int .i64 ix, .int .i64 ic]).bel hb1
  have hbb : Below w.heap.size w w1 := ((Below.refl _ _).alloc (Nat.le_refl _) _).trans (hb1.mono (by simp))
  clear hb1
  have k0 := B1.c 0 (.int .i64 rp) rfl
  have k1 := B1.c 1 (.int .i64 rg) rfl
  have k2 := B1.c 2 (.int .i64 pl) rfl
  have k3 := B1.c 3 (.int .i64 ix) rfl
  have k4 := B1.c 4 (.int .i64 ic) rfl
  go_wp2_with fail
  refine (may_of _ HM.out).mono ?_
  rintro e w1' ⟨rfl, hb1⟩
  have B1' := B1.bel hb1
  have hbb' := bt hbb hb1
  clear hb1 B1 hbb k0 k1 k2 k3 k4
  have k1 := B1'.c 1 (.int .i64 rg) rfl
  go_wp2_with fail
  refine (places_any _ _).mono ?_
  rw [← HP.out]
  rintro e w2 ⟨rfl, hb2⟩
  have B2 := B1'.bel hb2
  have hbb2 := bt hbb' hb2
  clear hb2 B1' hbb' k1
  have k0 := B2.c 0 (.int .i64 rp) rfl
  have k1 := B2.c 1 (.int .i64 rg) rfl
  have k2 := B2.c 2 (.int .i64 pl) rfl
  have k3 := B2.c 3 (.int .i64 ix) rfl
  have k4 := B2.c 4 (.int .i64 ic) rfl
  have fz := B2.frozen
  have hz := B2.lt
  have hz1 : w.heap.size < w2.heap.size + 1 := by omega
  have hz2 : w.heap.size < w2.heap.size + 1 + 1 := by omega
  go_wp2_with fail
  refine (print_yes _ ?_).mono ?_
  · exact mayB_mk (by omega) (by omega) (by omega) (by rw [← HP.out]; omega) (by omega) (by omega) (by omega) (by omega)
  rintro e w3 ⟨A3, c3, rfl, hb3⟩
  have B3 := ((((B2.set 2 _).alloc _).alloc _).alloc _).bel hb3
  clear k0 k1 k2 k3 k4
  have k0 := B3.c 0 _ rfl
  have k1 := B3.c 1 _ rfl
  have k2 := B3.c 2 _ rfl
  have k3 := B3.c 3 _ rfl
  have k4 := B3.c 4 _ rfl
  have hbb3 := (bal (bal (bal (hbb2.setCell (Nat.le_refl _) _) _) _) _).trans (hb3.mono (by simp; omega))
  go_wp2_with fail
  refine (may_of (b := true) _ ?_).mono ?_
  · exact mayB_mk (by omega) (by omega) (by omega) (by rw [← HP.out]; omega) (by omega) (by omega) (by omega) (by omega)
  rintro e w4 ⟨rfl, hb4⟩
  go_wp2_with fail
  go_ret
  exact ⟨rfl, bt hbb3 hb4⟩
set_option maxHeartbeats 2000000 in
theorem tagWrong_22 (rp rg pl ix ic : Int) (a1 a2 : Nat) (w : World) (hm0 : mayB rp rg pl ix ic = true) (e1 : a1 % 5 = 2) (e2 : a2 % 4 = 2) :
    Calls Try.prog 4 #[.agg #[.int .i64 rp, .int .i64 rg, .int .i64 pl, .int .i64 ix, .int .i64 ic], .int .u8 a1, .int .u8 a2] w (RetV w (.bool true)) := by
  have f1 : (a1 : Int) % 5 = 2 := by omega
  have f2 : (a2 : Int) % 4 = 2 := by omega
  obtain ⟨g0, g1, g2, g3, g4, g5, g6, g7, g8, g9, g10⟩ := mayB_true hm0
  have HM := Lib.hid hm0
  obtain ⟨P, HP⟩ : ∃ x, Hid (x = plc rg) := ⟨_, Lib.hid rfl⟩
  have hP0 : P ≤ 48 := by rw [HP.out]; exact (plc_bd rg).2.1
  rw [← HP.out] at g5
  clear hm0
  go_enter Try.func4, Try.ntmps4
  go_wp2_with fail
  refine (awake_any _).mono ?_
  rintro e w1 ⟨rfl, hb1⟩
  have B1 := (Blk.new w 29 #[.int .i64 rp, .int .i64 rg, .int .i64 pl, .int .i64 ix, .int .i64 ic]).bel hb1
  have hbb : Below w.heap.size w w1 := ((Below.refl _ _).alloc (Nat.le_refl _) _).trans (hb1.mono (by simp))
  clear hb1
  have k0 := B1.c 0 (.int .i64 rp) rfl
  have k1 := B1.c 1 (.int .i64 rg) rfl
  have k2 := B1.c 2 (.int .i64 pl) rfl
  have k3 := B1.c 3 (.int .i64 ix) rfl
  have k4 := B1.c 4 (.int .i64 ic) rfl
  go_wp2_with fail
  refine (may_of _ HM.out).mono ?_
  rintro e w1' ⟨rfl, hb1⟩
  have B1' := B1.bel hb1
  have hbb' := bt hbb hb1
  clear hb1 B1 hbb k0 k1 k2 k3 k4
  have k1 := B1'.c 1 (.int .i64 rg) rfl
  go_wp2_with fail
  refine (places_any _ _).mono ?_
  rw [← HP.out]
  rintro e w2 ⟨rfl, hb2⟩
  have B2 := B1'.bel hb2
  have hbb2 := bt hbb' hb2
  clear hb2 B1' hbb' k1
  have k0 := B2.c 0 (.int .i64 rp) rfl
  have k1 := B2.c 1 (.int .i64 rg) rfl
  have k2 := B2.c 2 (.int .i64 pl) rfl
  have k3 := B2.c 3 (.int .i64 ix) rfl
  have k4 := B2.c 4 (.int .i64 ic) rfl
  have fz := B2.frozen
  have hz := B2.lt
  have hz1 : w.heap.size < w2.heap.size + 1 := by omega
  have hz2 : w.heap.size < w2.heap.size + 1 + 1 := by omega
  go_wp2_with fail
  refine (print_yes _ ?_).mono ?_
  · exact mayB_mk (by omega) (by omega) (by omega) (by rw [← HP.out]; omega) (by omega) (by omega) (by omega) (by omega)
  rintro e w3 ⟨A3, c3, rfl, hb3⟩
  have B3 := ((((B2.set 2 _).alloc _).alloc _).alloc _).bel hb3
  clear k0 k1 k2 k3 k4
  have k0 := B3.c 0 _ rfl
  have k1 := B3.c 1 _ rfl
  have k2 := B3.c 2 _ rfl
  have k3 := B3.c 3 _ rfl
  have k4 := B3.c 4 _ rfl
  have hbb3 := (bal (bal (bal (hbb2.setCell (Nat.le_refl _) _) _) _) _).trans (hb3.mono (by simp; omega))
  go_wp2_with fail
  refine (may_of (b := true) _ ?_).mono ?_
  · exact mayB_mk (by omega) (by omega) (by omega) (by rw [← HP.out]; omega) (by omega) (by omega) (by omega) (by omega)
  rintro e w4 ⟨rfl, hb4⟩
  go_wp2_with fail
  go_ret
  exact ⟨rfl, bt hbb3 hb4⟩
set_option maxHeartbeats 2000000 in
theorem tagWrong_23 (rp rg pl ix ic : Int) (a1 a2 : Nat) (w : World) (hm0 : mayB rp rg pl ix ic = true) (e1 : a1 % 5 = 2) (e2 : a2 % 4 = 3) :
    Calls Try.prog 4 #[.agg #[.int .i64 rp, .int .i64 rg, .int .i64 pl, .int .i64 ix, .int .i64 ic], .int .u8 a1, .int .u8 a2] w (RetV w (.bool true)) := by
  have f1 : (a1 : Int) % 5 = 2 := by omega
  have f2 : (a2 : Int) % 4 = 3 := by omega
  obtain ⟨g0, g1, g2, g3, g4, g5, g6, g7, g8, g9, g10⟩ := mayB_true hm0
  have HM := Lib.hid hm0
  obtain ⟨P, HP⟩ : ∃ x, Hid (x = plc rg) := ⟨_, Lib.hid rfl⟩
  have hP0 : P ≤ 48 := by rw [HP.out]; exact (plc_bd rg).2.1
  rw [← HP.out] at g5
  clear hm0
  go_enter Try.func4, Try.ntmps4
  go_wp2_with fail
  refine (awake_any _).mono ?_
  rintro e w1 ⟨rfl, hb1⟩
  have B1 := (Blk.new w 29 #[.int .i64 rp, .int .i64 rg, .int .i64 pl, .int .i64 ix, .int .i64 ic]).bel hb1
  have hbb : Below w.heap.size w w1 := ((Below.refl _ _).alloc (Nat.le_refl _) _).trans (hb1.mono (by simp))
  clear hb1
  have k0 := B1.c 0 (.int .i64 rp) rfl
  have k1 := B1.c 1 (.int .i64 rg) rfl
  have k2 := B1.c 2 (.int .i64 pl) rfl
  have k3 := B1.c 3 (.int .i64 ix) rfl
  have k4 := B1.c 4 (.int .i64 ic) rfl
  go_wp2_with fail
  refine (may_of _ HM.out).mono ?_
  rintro e w1' ⟨rfl, hb1⟩
  have B1' := B1.bel hb1
  have hbb' := bt hbb hb1
  clear hb1 B1 hbb k0 k1 k2 k3 k4
  have k1 := B1'.c 1 (.int .i64 rg) rfl
  go_wp2_with fail
  refine (places_any _ _).mono ?_
  rw [← HP.out]
  rintro e w2 ⟨rfl, hb2⟩
  have B2 := B1'.bel hb2
  have hbb2 := bt hbb' hb2
  clear hb2 B1' hbb' k1
  have k0 := B2.c 0 (.int .i64 rp) rfl
  have k1 := B2.c 1 (.int .i64 rg) rfl
  have k2 := B2.c 2 (.int .i64 pl) rfl
  have k3 := B2.c 3 (.int .i64 ix) rfl
  have k4 := B2.c 4 (.int .i64 ic) rfl
  have fz := B2.frozen
  have hz := B2.lt
  have hz1 : w.heap.size < w2.heap.size + 1 := by omega
  have hz2 : w.heap.size < w2.heap.size + 1 + 1 := by omega
  go_wp2_with fail
  refine (print_no _ ?_).mono ?_
  · exact mayB_no (by rw [← HP.out]; omega)
  rintro e w3 ⟨A3, c3, rfl, hb3⟩
  have B3 := ((((B2.set 2 _).alloc _).alloc _).alloc _).bel hb3
  clear k0 k1 k2 k3 k4
  have k0 := B3.c 0 _ rfl
  have k1 := B3.c 1 _ rfl
  have k2 := B3.c 2 _ rfl
  have k3 := B3.c 3 _ rfl
  have k4 := B3.c 4 _ rfl
  have hbb3 := (bal (bal (bal (hbb2.setCell (Nat.le_refl _) _) _) _) _).trans (hb3.mono (by simp; omega))
  go_wp2_with fail
  refine (may_of (b := false) _ ?_).mono ?_
  · exact mayB_no (by rw [← HP.out]; omega)
  rintro e w4 ⟨rfl, hb4⟩
  go_wp2_with fail
  go_ret
  exact ⟨rfl, bt hbb3 hb4⟩
set_option maxHeartbeats 2000000 in
theorem tagWrong_30 (rp rg pl ix ic : Int) (a1 a2 : Nat) (w : World) (hm0 : mayB rp rg pl ix ic = true) (e1 : a1 % 5 = 3) (e2 : a2 % 4 = 0) :
    Calls Try.prog 4 #[.agg #[.int .i64 rp, .int .i64 rg, .int .i64 pl, .int .i64 ix, .int .i64 ic], .int .u8 a1, .int .u8 a2] w (RetV w (.bool true)) := by
  have f1 : (a1 : Int) % 5 = 3 := by omega
  have f2 : (a2 : Int) % 4 = 0 := by omega
  obtain ⟨g0, g1, g2, g3, g4, g5, g6, g7, g8, g9, g10⟩ := mayB_true hm0
  have HM := Lib.hid hm0
  obtain ⟨P, HP⟩ : ∃ x, Hid (x = plc rg) := ⟨_, Lib.hid rfl⟩
  have hP0 : P ≤ 48 := by rw [HP.out]; exact (plc_bd rg).2.1
  rw [← HP.out] at g5
  clear hm0
  go_enter Try.func4, Try.ntmps4
  go_wp2_with fail
  refine (awake_any _).mono ?_
  rintro e w1 ⟨rfl, hb1⟩
  have B1 := (Blk.new w 29 #[.int .i64 rp, .int .i64 rg, .int .i64 pl, .int .i64 ix, .int .i64 ic]).bel hb1
  have hbb : Below w.heap.size w w1 := ((Below.refl _ _).alloc (Nat.le_refl _) _).trans (hb1.mono (by simp))
  clear hb1
  have k0 := B1.c 0 (.int .i64 rp) rfl
  have k1 := B1.c 1 (.int .i64 rg) rfl
  have k2 := B1.c 2 (.int .i64 pl) rfl
  have k3 := B1.c 3 (.int .i64 ix) rfl
  have k4 := B1.c 4 (.int .i64 ic) rfl
  go_wp2_with fail
  refine (may_of _ HM.out).mono ?_
  rintro e w1' ⟨rfl, hb1⟩
  have B1' := B1.bel hb1
  have hbb' := bt hbb hb1
  clear hb1 B1 hbb k0 k1 k2 k3 k4
  have k1 := B1'.c 1 (.int .i64 rg) rfl
  go_wp2_with fail
  refine (places_any _ _).mono ?_
  rw [← HP.out]
  rintro e w2 ⟨rfl, hb2⟩
  have B2 := B1'.bel hb2
  have hbb2 := bt hbb' hb2
  clear hb2 B1' hbb' k1
  have k0 := B2.c 0 (.int .i64 rp) rfl
  have k1 := B2.c 1 (.int .i64 rg) rfl
  have k2 := B2.c 2 (.int .i64 pl) rfl
  have k3 := B2.c 3 (.int .i64 ix) rfl
  have k4 := B2.c 4 (.int .i64 ic) rfl
  have fz := B2.frozen
  have hz := B2.lt
  have hz1 : w.heap.size < w2.heap.size + 1 := by omega
  have hz2 : w.heap.size < w2.heap.size + 1 + 1 := by omega
  go_wp2_with fail
  refine (print_no _ ?_).mono ?_
  · exact mayB_no (by rw [← HP.out]; omega)
  rintro e w3 ⟨A3, c3, rfl, hb3⟩
  have B3 := ((((B2.set 3 _).alloc _).alloc _).alloc _).bel hb3
  clear k0 k1 k2 k3 k4
  have k0 := B3.c 0 _ rfl
  have k1 := B3.c 1 _ rfl
  have k2 := B3.c 2 _ rfl
  have k3 := B3.c 3 _ rfl
  have k4 := B3.c 4 _ rfl
  have hbb3 := (bal (bal (bal (hbb2.setCell (Nat.le_refl _) _) _) _) _).trans (hb3.mono (by simp; omega))
  go_wp2_with fail
  refine (may_of (b := false) _ ?_).mono ?_
  · exact mayB_no (by rw [← HP.out]; omega)
  rintro e w4 ⟨rfl, hb4⟩
  go_wp2_with fail
  go_ret
  exact ⟨rfl, bt hbb3 hb4⟩
set_option maxHeartbeats 2000000 in
theorem tagWrong_31 (rp rg pl ix ic : Int) (a1 a2 : Nat) (w : World) (hm0 : mayB rp rg pl ix ic = true) (e1 : a1 % 5 = 3) (e2 : a2 % 4 = 1) :
    Calls Try.prog 4 #[.agg #[.int .i64 rp, .int .i64 rg, .int .i64 pl, .int .i64 ix, .int .i64 ic], .int .u8 a1, .int .u8 a2] w (RetV w (.bool true)) := by
  have f1 : (a1 : Int) % 5 = 3 := by omega
  have f2 : (a2 : Int) % 4 = 1 := by omega
  obtain ⟨g0, g1, g2, g3, g4, g5, g6, g7, g8, g9, g10⟩ := mayB_true hm0
  have HM := Lib.hid hm0
  obtain ⟨P, HP⟩ : ∃ x, Hid (x = plc rg) := ⟨_, Lib.hid rfl⟩
  have hP0 : P ≤ 48 := by rw [HP.out]; exact (plc_bd rg).2.1
  rw [← HP.out] at g5
  clear hm0
  go_enter Try.func4, Try.ntmps4
  go_wp2_with fail
  refine (awake_any _).mono ?_
  rintro e w1 ⟨rfl, hb1⟩
  have B1 := (Blk.new w 29 #[.int .i64 rp, .int .i64 rg, .int .i64 pl, .int .i64 ix, .int .i64 ic]).bel hb1
  have hbb : Below w.heap.size w w1 := ((Below.refl _ _).alloc (Nat.le_refl _) _).trans (hb1.mono (by simp))
  clear hb1
  have k0 := B1.c 0 (.int .i64 rp) rfl
  have k1 := B1.c 1 (.int .i64 rg) rfl
  have k2 := B1.c 2 (.int .i64 pl) rfl
  have k3 := B1.c 3 (.int .i64 ix) rfl
  have k4 := B1.c 4 (.int .i64 ic) rfl
  go_wp2_with fail
  refine (may_of _ HM.out).mono ?_
  rintro e w1' ⟨rfl, hb1⟩
  have B1' := B1.bel hb1
  have hbb' := bt hbb hb1
  clear hb1 B1 hbb k0 k1 k2 k3 k4
  have k1 := B1'.c 1 (.int .i64 rg) rfl
  go_wp2_with fail
  refine (places_any _ _).mono ?_
  rw [← HP.out]
  rintro e w2 ⟨rfl, hb2⟩
  have B2 := B1'.bel hb2
  have hbb2 := bt hbb' hb2
  clear hb2 B1' hbb' k1
  have k0 := B2.c 0 (.int .i64 rp) rfl
  have k1 := B2.c 1 (.int .i64 rg) rfl
  have k2 := B2.c 2 (.int .i64 pl) rfl
  have k3 := B2.c 3 (.int .i64 ix) rfl
  have k4 := B2.c 4 (.int .i64 ic) rfl
  have fz := B2.frozen
  have hz := B2.lt
  have hz1 : w.heap.size < w2.heap.size + 1 := by omega
  have hz2 : w.heap.size < w2.heap.size + 1 + 1 := by omega
  go_wp2_with fail
  refine (print_yes _ ?_).mono ?_
  · exact mayB_mk (by omega) (by omega) (by omega) (by rw [← HP.out]; omega) (by omega) (by omega) (by omega) (by omega)
  rintro e w3 ⟨A3, c3, rfl, hb3⟩
  have B3 := ((((B2.set 3 _).alloc _).alloc _).alloc _).bel hb3
  clear k0 k1 k2 k3 k4
  have k0 := B3.c 0 _ rfl
  have k1 := B3.c 1 _ rfl
  have k2 := B3.c 2 _ rfl
  have k3 := B3.c 3 _ rfl
  have k4 := B3.c 4 _ rfl
  have hbb3 := (bal (bal (bal (hbb2.setCell (Nat.le_refl _) _) _) _) _).trans (hb3.mono (by simp; omega))
  go_wp2_with fail
  refine (may_of (b := true) _ ?_).mono ?_
  · exact mayB_mk (by omega) (by omega) (by omega) (by rw [← HP.out]; omega) (by omega) (by omega) (by omega) (by omega)
  rintro e w4 ⟨rfl, hb4⟩
  go_wp2_with fail
  go_ret
  exact ⟨rfl, bt hbb3 hb4⟩
set_option maxHeartbeats 2000000 in
theorem tagWrong_32 (rp rg pl ix ic : Int) (a1 a2 : Nat) (w : World) (hm0 : mayB rp rg pl ix ic = true) (e1 : a1 % 5 = 3) (e2 : a2 % 4 = 2) :
    Calls Try.prog 4 #[.agg #[.int .i64 rp, .int .i64 rg, .int .i64 pl, .int .i64 ix, .int .i64 ic], .int .u8 a1, .int .u8 a2] w (RetV w (.bool true)) := by
  have f1 : (a1 : Int) % 5 = 3 := by omega
  have f2 : (a2 : Int) % 4 = 2 := by omega
  obtain ⟨g0, g1, g2, g3, g4, g5, g6, g7, g8, g9, g10⟩ := mayB_true hm0
  have HM := Lib.hid hm0
  obtain ⟨P, HP⟩ : ∃ x, Hid (x = plc rg) := ⟨_, Lib.hid rfl⟩
  have hP0 : P ≤ 48 := by rw [HP.out]; exact (plc_bd rg).2.1
  rw [← HP.out] at g5
  clear hm0
  go_enter Try.func4, Try.ntmps4
  go_wp2_with fail
  refine (awake_any _).mono ?_
  rintro e w1 ⟨rfl, hb1⟩
  have B1 := (Blk.new w 29 #[.int .i64 rp, .int .i64 rg, .int .i64 pl, .int .i64 ix, .int .i64 ic]).bel hb1
  have hbb : Below w.heap.size w w1 := ((Below.refl _ _).alloc (Nat.le_refl _) _).trans (hb1.mono (by simp))
  clear hb1
  have k0 := B1.c 0 (.int .i64 rp) rfl
  have k1 := B1.c 1 (.int .i64 rg) rfl
  have k2 := B1.c 2 (.int .i64 pl) rfl
  have k3 := B1.c 3 (.int .i64 ix) rfl
  have k4 := B1.c 4 (.int .i64 ic) rfl
  go_wp2_with fail
  refine (may_of _ HM.out).mono ?_
  rintro e w1' ⟨rfl, hb1⟩
  have B1' := B1.bel hb1
  have hbb' := bt hbb hb1
  clear hb1 B1 hbb k0 k1 k2 k3 k4
  have k1 := B1'.c 1 (.int .i64 rg) rfl
  go_wp2_with fail
  refine (places_any _ _).mono ?_
  rw [← HP.out]
  rintro e w2 ⟨rfl, hb2⟩
  have B2 := B1'.bel hb2
  have hbb2 := bt hbb' hb2
  clear hb2 B1' hbb' k1
  have k0 := B2.c 0 (.int .i64 rp) rfl
  have k1 := B2.c 1 (.int .i64 rg) rfl
  have k2 := B2.c 2 (.int .i64 pl) rfl
  have k3 := B2.c 3 (.int .i64 ix) rfl
  have k4 := B2.c 4 (.int .i64 ic) rfl
  have fz := B2.frozen
  have hz := B2.lt
  have hz1 : w.heap.size < w2.heap.size + 1 := by omega
  have hz2 : w.heap.size < w2.heap.size + 1 + 1 := by omega
  go_wp2_with fail
  refine (print_yes _ ?_).mono ?_
  · exact mayB_mk (by omega) (by omega) (by omega) (by rw [← HP.out]; omega) (by omega) (by omega) (by omega) (by omega)
  rintro e w3 ⟨A3, c3, rfl, hb3⟩
  have B3 := ((((B2.set 3 _).alloc _).alloc _).alloc _).bel hb3
  clear k0 k1 k2 k3 k4
  have k0 := B3.c 0 _ rfl
  have k1 := B3.c 1 _ rfl
  have k2 := B3.c 2 _ rfl
  have k3 := B3.c 3 _ rfl
  have k4 := B3.c 4 _ rfl
  have hbb3 := (bal (bal (bal (hbb2.setCell (Nat.le_refl _) _) _) _) _).trans (hb3.mono (by simp; omega))
  go_wp2_with fail
  refine (may_of (b := true) _ ?_).mono ?_
  · exact mayB_mk (by omega) (by omega) (by omega) (by rw [← HP.out]; omega) (by omega) (by omega) (by omega) (by omega)
  rintro e w4 ⟨rfl, hb4⟩
  go_wp2_with fail
  go_ret
  exact ⟨rfl, bt hbb3 hb4⟩
set_option maxHeartbeats 2000000 in
theorem tagWrong_33 (rp rg pl ix ic : Int) (a1 a2 : Nat) (w : World) (hm0 : mayB rp rg pl ix ic = true) (e1 : a1 % 5 = 3) (e2 : a2 % 4 = 3) :
    Calls Try.prog 4 #[.agg #[.int .i64 rp, .int .i64 rg, .int .i64 pl, .int .i64 ix, .int .i64 ic], .int .u8 a1, .int .u8 a2] w (RetV w (.bool true)) := by
  have f1 : (a1 : Int) % 5 = 3 := by omega
  have f2 : (a2 : Int) % 4 = 3 := by omega
  obtain ⟨g0, g1, g2, g3, g4, g5, g6, g7, g8, g9, g10⟩ := mayB_true hm0
  have HM := Lib.hid hm0
  obtain ⟨P, HP⟩ : ∃ x, Hid (x = plc rg) := ⟨_, Lib.hid rfl⟩
  have hP0 : P ≤ 48 := by rw [HP.out]; exact (plc_bd rg).2.1
  rw [← HP.out] at g5
  clear hm0
  go_enter Try.func4, Try.ntmps4
  go_wp2_with fail
  refine (awake_any _).mono ?_
  rintro e w1 ⟨rfl, hb1⟩
  have B1 := (Blk.new w 29 #[.int .i64 rp, .int .i64 rg, .int .i64 pl, .int .i64 ix, .int .i64 ic]).bel hb1
  have hbb : Below w.heap.size w w1 := ((Below.refl _ _).alloc (Nat.le_refl _) _).trans (hb1.mono (by simp))
  clear hb1
  have k0 := B1.c 0 (.int .i64 rp) rfl
  have k1 := B1.c 1 (.int .i64 rg) rfl
  have k2 := B1.c 2 (.int .i64 pl) rfl
  have k3 := B1.c 3 (.int .i64 ix) rfl
  have k4 := B1.c 4 (.int .i64 ic) rfl
  go_wp2_with fail
  refine (may_of _ HM.out).mono ?_
  rintro e w1' ⟨rfl, hb1⟩
  have B1' := B1.bel hb1
  have hbb' := bt hbb hb1
  clear hb1 B1 hbb k0 k1 k2 k3 k4
  have k1 := B1'.c 1 (.int .i64 rg) rfl
  go_wp2_with fail
  refine (places_any _ _).mono ?_
  rw [← HP.out]
  rintro e w2 ⟨rfl, hb2⟩
  have B2 := B1'.bel hb2
  have hbb2 := bt hbb' hb2
  clear hb2 B1' hbb' k1
  have k0 := B2.c 0 (.int .i64 rp) rfl
  have k1 := B2.c 1 (.int .i64 rg) rfl
  have k2 := B2.c 2 (.int .i64 pl) rfl
  have k3 := B2.c 3 (.int .i64 ix) rfl
  have k4 := B2.c 4 (.int .i64 ic) rfl
  have fz := B2.frozen
  have hz := B2.lt
  have hz1 : w.heap.size < w2.heap.size + 1 := by omega
  have hz2 : w.heap.size < w2.heap.size + 1 + 1 := by omega
  go_wp2_with fail
  refine (print_no _ ?_).mono ?_
  · exact mayB_no (by rw [← HP.out]; omega)
  rintro e w3 ⟨A3, c3, rfl, hb3⟩
  have B3 := ((((B2.set 3 _).alloc _).alloc _).alloc _).bel hb3
  clear k0 k1 k2 k3 k4
  have k0 := B3.c 0 _ rfl
  have k1 := B3.c 1 _ rfl
  have k2 := B3.c 2 _ rfl
  have k3 := B3.c 3 _ rfl
  have k4 := B3.c 4 _ rfl
  have hbb3 := (bal (bal (bal (hbb2.setCell (Nat.le_refl _) _) _) _) _).trans (hb3.mono (by simp; omega))
  go_wp2_with fail
  refine (may_of (b := false) _ ?_).mono ?_
  · exact mayB_no (by rw [← HP.out]; omega)
  rintro e w4 ⟨rfl, hb4⟩
  go_wp2_with fail
  go_ret
  exact ⟨rfl, bt hbb3 hb4⟩
set_option maxHeartbeats 2000000 in
theorem tagWrong_40 (rp rg pl ix ic : Int) (a1 a2 : Nat) (w : World) (hm0 : mayB rp rg pl ix ic = true) (e1 : a1 % 5 = 4) (e2 : a2 % 4 = 0) :
    Calls Try.prog 4 #[.agg #[.int .i64 rp, .int .i64 rg, .int .i64 pl, .int .i64 ix, .int .i64 ic], .int .u8 a1, .int .u8 a2] w (RetV w (.bool true)) := by
  have f1 : (a1 : Int) % 5 = 4 := by omega
  have f2 : (a2 : Int) % 4 = 0 := by omega
  obtain ⟨g0, g1, g2, g3, g4, g5, g6, g7, g8, g9, g10⟩ := mayB_true hm0
  have HM := Lib.hid hm0
  obtain ⟨P, HP⟩ : ∃ x, Hid (x = plc rg) := ⟨_, Lib.hid rfl⟩
  have hP0 : P ≤ 48 := by rw [HP.out]; exact (plc_bd rg).2.1
  rw [← HP.out] at g5
  clear hm0
  go_enter Try.func4, Try.ntmps4
  go_wp2_with fail
  refine (awake_any _).mono ?_
  rintro e w1 ⟨rfl, hb1⟩
  have B1 := (Blk.new w 29 #[.int .i64 rp, .int .i64 rg, .int .i64 pl, .int .i64 ix, .int .i64 ic]).bel hb1
  have hbb : Below w.heap.size w w1 := ((Below.refl _ _).alloc (Nat.le_refl _) _).trans (hb1.mono (by simp))
  clear hb1
  have k0 := B1.c 0 (.int .i64 rp) rfl
  have k1 := B1.c 1 (.int .i64 rg) rfl
  have k2 := B1.c 2 (.int .i64 pl) rfl
  have k3 := B1.c 3 (.int .i64 ix) rfl
  have k4 := B1.c 4 (.int .i64 ic) rfl
  go_wp2_with fail
  refine (may_of _ HM.out).mono ?_
  rintro e w1' ⟨rfl, hb1⟩
  have B1' := B1.bel hb1
  have hbb' := bt hbb hb1
  clear hb1 B1 hbb k0 k1 k2 k3 k4
  have k1 := B1'.c 1 (.int .i64 rg) rfl
  go_wp2_with fail
  refine (places_any _ _).mono ?_
  rw [← HP.out]
  rintro e w2 ⟨rfl, hb2⟩
  have B2 := B1'.bel hb2
  have hbb2 := bt hbb' hb2
  clear hb2 B1' hbb' k1
  have k0 := B2.c 0 (.int .i64 rp) rfl
  have k1 := B2.c 1 (.int .i64 rg) rfl
  have k2 := B2.c 2 (.int .i64 pl) rfl
  have k3 := B2.c 3 (.int .i64 ix) rfl
  have k4 := B2.c 4 (.int .i64 ic) rfl
  have fz := B2.frozen
  have hz := B2.lt
  have hz1 : w.heap.size < w2.heap.size + 1 := by omega
  have hz2 : w.heap.size < w2.heap.size + 1 + 1 := by omega
  go_wp2_with fail
  refine (print_no _ ?_).mono ?_
  · exact mayB_no (by rw [← HP.out]; omega)
  rintro e w3 ⟨A3, c3, rfl, hb3⟩
  have B3 := ((((B2.set 4 _).alloc _).alloc _).alloc _).bel hb3
  clear k0 k1 k2 k3 k4
  have k0 := B3.c 0 _ rfl
  have k1 := B3.c 1 _ rfl
  have k2 := B3.c 2 _ rfl
  have k3 := B3.c 3 _ rfl
  have k4 := B3.c 4 _ rfl
  have hbb3 := (bal (bal (bal (hbb2.setCell (Nat.le_refl _) _) _) _) _).trans (hb3.mono (by simp; omega))
  go_wp2_with fail
  refine (may_of (b := false) _ ?_).mono ?_
  · exact mayB_no (by rw [← HP.out]; omega)
  rintro e w4 ⟨rfl, hb4⟩
  go_wp2_with fail
  go_ret
  exact ⟨rfl, bt hbb3 hb4⟩
set_option maxHeartbeats 2000000 in
theorem tagWrong_41 (rp rg pl ix ic : Int) (a1 a2 : Nat) (w : World) (hm0 : mayB rp rg pl ix ic = true) (e1 : a1 % 5 = 4) (e2 : a2 % 4 = 1) :
    Calls Try.prog 4 #[.agg #[.int .i64 rp, .int .i64 rg, .int .i64 pl, .int .i64 ix, .int .i64 ic], .int .u8 a1, .int .u8 a2] w (RetV w (.bool true)) := by
  have f1 : (a1 : Int) % 5 = 4 := by omega
  have f2 : (a2 : Int) % 4 = 1 := by omega
  obtain ⟨g0, g1, g2, g3, g4, g5, g6, g7, g8, g9, g10⟩ := mayB_true hm0
  have HM := Lib.hid hm0
  obtain ⟨P, HP⟩ : ∃ x, Hid (x = plc rg) := ⟨_, Lib.hid rfl⟩
  have hP0 : P ≤ 48 := by rw [HP.out]; exact (plc_bd rg).2.1
  rw [← HP.out] at g5
  clear hm0
  go_enter Try.func4, Try.ntmps4
  go_wp2_with fail
  refine (awake_any _).mono ?_
  rintro e w1 ⟨rfl, hb1⟩
  have B1 := (Blk.new w 29 #[.int .i64 rp, .int .i64 rg, .int .i64 pl, .int .i64 ix, .int .i64 ic]).bel hb1
  have hbb : Below w.heap.size w w1 := ((Below.refl _ _).alloc (Nat.le_refl _) _).trans (hb1.mono (by simp))
  clear hb1
  have k0 := B1.c 0 (.int .i64 rp) rfl
  have k1 := B1.c 1 (.int .i64 rg) rfl
  have k2 := B1.c 2 (.int .i64 pl) rfl
  have k3 := B1.c 3 (.int .i64 ix) rfl
  have k4 := B1.c 4 (.int .i64 ic) rfl
  go_wp2_with fail
  refine (may_of _ HM.out).mono ?_
  rintro e w1' ⟨rfl, hb1⟩
  have B1' := B1.bel hb1
  have hbb' := bt hbb hb1
  clear hb1 B1 hbb k0 k1 k2 k3 k4
  have k1 := B1'.c 1 (.int .i64 rg) rfl
  go_wp2_with fail
  refine (places_any _ _).mono ?_
  rw [← HP.out]
  rintro e w2 ⟨rfl, hb2⟩
  have B2 := B1'.bel hb2
  have hbb2 := bt hbb' hb2
  clear hb2 B1' hbb' k1
  have k0 := B2.c 0 (.int .i64 rp) rfl
  have k1 := B2.c 1 (.int .i64 rg) rfl
  have k2 := B2.c 2 (.int .i64 pl) rfl
  have k3 := B2.c 3 (.int .i64 ix) rfl
  have k4 := B2.c 4 (.int .i64 ic) rfl
  have fz := B2.frozen
  have hz := B2.lt
  have hz1 : w.heap.size < w2.heap.size + 1 := by omega
  have hz2 : w.heap.size < w2.heap.size + 1 + 1 := by omega
  go_wp2_with fail
  refine (print_yes _ ?_).mono ?_
  · exact mayB_mk (by omega) (by omega) (by omega) (by rw [← HP.out]; omega) (by omega) (by omega) (by omega) (by omega)
  rintro e w3 ⟨A3, c3, rfl, hb3⟩
  have B3 := ((((B2.set 4 _).alloc _).alloc _).alloc _).bel hb3
  clear k0 k1 k2 k3 k4
  have k0 := B3.c 0 _ rfl
  have k1 := B3.c 1 _ rfl
  have k2 := B3.c 2 _ rfl
  have k3 := B3.c 3 _ rfl
  have k4 := B3.c 4 _ rfl
  have hbb3 := (bal (bal (bal (hbb2.setCell (Nat.le_refl _) _) _) _) _).trans (hb3.mono (by simp; omega))
  go_wp2_with fail
  refine (may_of (b := true) _ ?_).mono ?_
  · exact mayB_mk (by omega) (by omega) (by omega) (by rw [← HP.out]; omega) (by omega) (by omega) (by omega) (by omega)
  rintro e w4 ⟨rfl, hb4⟩
  go_wp2_with fail
  go_ret
  exact ⟨rfl, bt hbb3 hb4⟩
set_option maxHeartbeats 2000000 in
theorem tagWrong_42 (rp rg pl ix ic : Int) (a1 a2 : Nat) (w : World) (hm0 : mayB rp rg pl ix ic = true) (e1 : a1 % 5 = 4) (e2 : a2 % 4 = 2) :
    Calls Try.prog 4 #[.agg #[.int .i64 rp, .int .i64 rg, .int .i64 pl, .int .i64 ix, .int .i64 ic], .int .u8 a1, .int .u8 a2] w (RetV w (.bool true)) := by
  have f1 : (a1 : Int) % 5 = 4 := by omega
  have f2 : (a2 : Int) % 4 = 2 := by omega
  obtain ⟨g0, g1, g2, g3, g4, g5, g6, g7, g8, g9, g10⟩ := mayB_true hm0
  have HM := Lib.hid hm0
  obtain ⟨P, HP⟩ : ∃ x, Hid (x = plc rg) := ⟨_, Lib.hid rfl⟩
  have hP0 : P ≤ 48 := by rw [HP.out]; exact (plc_bd rg).2.1
  rw [← HP.out] at g5
  clear hm0
  go_enter Try.func4, Try.ntmps4
  go_wp2_with fail
  refine (awake_any _).mono ?_
  rintro e w1 ⟨rfl, hb1⟩
  have B1 := (Blk.new w 29 #[.int .i64 rp, .int .i64 rg, .int .i64 pl, .int .i64 ix, .int .i64 ic]).bel hb1
  have hbb : Below w.heap.size w w1 := ((Below.refl _ _).alloc (Nat.le_refl _) _).trans (hb1.mono (by simp))
  clear hb1
  have k0 := B1.c 0 (.int .i64 rp) rfl
  have k1 := B1.c 1 (.int .i64 rg) rfl
  have k2 := B1.c 2 (.int .i64 pl) rfl
  have k3 := B1.c 3 (.int .i64 ix) rfl
  have k4 := B1.c 4 (.int .i64 ic) rfl
  go_wp2_with fail
  refine (may_of _ HM.out).mono ?_
  rintro e w1' ⟨rfl, hb1⟩
  have B1' := B1.bel hb1
  have hbb' := bt hbb hb1
  clear hb1 B1 hbb k0 k1 k2 k3 k4
  have k1 := B1'.c 1 (.int .i64 rg) rfl
  go_wp2_with fail
  refine (places_any _ _).mono ?_
  rw [← HP.out]
  rintro e w2 ⟨rfl, hb2⟩
  have B2 := B1'.bel hb2
  have hbb2 := bt hbb' hb2
  clear hb2 B1' hbb' k1
  have k0 := B2.c 0 (.int .i64 rp) rfl
  have k1 := B2.c 1 (.int .i64 rg) rfl
  have k2 := B2.c 2 (.int .i64 pl) rfl
  have k3 := B2.c 3 (.int .i64 ix) rfl
  have k4 := B2.c 4 (.int .i64 ic) rfl
  have fz := B2.frozen
  have hz := B2.lt
  have hz1 : w.heap.size < w2.heap.size + 1 := by omega
  have hz2 : w.heap.size < w2.heap.size + 1 + 1 := by omega
  go_wp2_with fail
  refine (print_yes _ ?_).mono ?_
  · exact mayB_mk (by omega) (by omega) (by omega) (by rw [← HP.out]; omega) (by omega) (by omega) (by omega) (by omega)
  rintro e w3 ⟨A3, c3, rfl, hb3⟩
  have B3 := ((((B2.set 4 _).alloc _).alloc _).alloc _).bel hb3
  clear k0 k1 k2 k3 k4
  have k0 := B3.c 0 _ rfl
  have k1 := B3.c 1 _ rfl
  have k2 := B3.c 2 _ rfl
  have k3 := B3.c 3 _ rfl
  have k4 := B3.c 4 _ rfl
  have hbb3 := (bal (bal (bal (hbb2.setCell (Nat.le_refl _) _) _) _) _).trans (hb3.mono (by simp; omega))
  go_wp2_with fail
  refine (may_of (b := true) _ ?_).mono ?_
  · exact mayB_mk (by omega) (by omega) (by omega) (by rw [← HP.out]; omega) (by omega) (by omega) (by omega) (by omega)
  rintro e w4 ⟨rfl, hb4⟩
  go_wp2_with fail
  go_ret
  exact ⟨rfl, bt hbb3 hb4⟩
set_option maxHeartbeats 2000000 in
theorem tagWrong_43 (rp rg pl ix ic : Int) (a1 a2 : Nat) (w : World) (hm0 : mayB rp rg pl ix ic = true) (e1 : a1 % 5 = 4) (e2 : a2 % 4 = 3) :
    Calls Try.prog 4 #[.agg #[.int .i64 rp, .int .i64 rg, .int .i64 pl, .int .i64 ix, .int .i64 ic], .int .u8 a1, .int .u8 a2] w (RetV w (.bool true)) := by
  have f1 : (a1 : Int) % 5 = 4 := by omega
  have f2 : (a2 : Int) % 4 = 3 := by omega
  obtain ⟨g0, g1, g2, g3, g4, g5, g6, g7, g8, g9, g10⟩ := mayB_true hm0
  have HM := Lib.hid hm0
  obtain ⟨P, HP⟩ : ∃ x, Hid (x = plc rg) := ⟨_, Lib.hid rfl⟩
  have hP0 : P ≤ 48 := by rw [HP.out]; exact (plc_bd rg).2.1
  rw [← HP.out] at g5
  clear hm0
  go_enter Try.func4, Try.ntmps4
  go_wp2_with fail
  refine (awake_any _).mono ?_
  rintro e w1 ⟨rfl, hb1⟩
  have B1 := (Blk.new w 29 #[.int .i64 rp, .int .i64 rg, .int .i64 pl, .int .i64 ix, .int .i64 ic]).bel hb1
  have hbb : Below w.heap.size w w1 := ((Below.refl _ _).alloc (Nat.le_refl _) _).trans (hb1.mono (by simp))
  clear hb1
  have k0 := B1.c 0 (.int .i64 rp) rfl
  have k1 := B1.c 1 (.int .i64 rg) rfl
  have k2 := B1.c 2 (.int .i64 pl) rfl
  have k3 := B1.c 3 (.int .i64 ix) rfl
  have k4 := B1.c 4 (.int .i64 ic) rfl
  go_wp2_with fail
  refine (may_of _ HM.out).mono ?_
  rintro e w1' ⟨rfl, hb1⟩
  have B1' := B1.bel hb1
  have hbb' := bt hbb hb1
  clear hb1 B1 hbb k0 k1 k2 k3 k4
  have k1 := B1'.c 1 (.int .i64 rg) rfl
  go_wp2_with fail
  refine (places_any _ _).mono ?_
  rw [← HP.out]
  rintro e w2 ⟨rfl, hb2⟩
  have B2 := B1'.bel hb2
  have hbb2 := bt hbb' hb2
  clear hb2 B1' hbb' k1
  have k0 := B2.c 0 (.int .i64 rp) rfl
  have k1 := B2.c 1 (.int .i64 rg) rfl
  have k2 := B2.c 2 (.int .i64 pl) rfl
  have k3 := B2.c 3 (.int .i64 ix) rfl
  have k4 := B2.c 4 (.int .i64 ic) rfl
  have fz := B2.frozen
  have hz := B2.lt
  have hz1 : w.heap.size < w2.heap.size + 1 := by omega
  have hz2 : w.heap.size < w2.heap.size + 1 + 1 := by omega
  go_wp2_with fail
  refine (print_no _ ?_).mono ?_
  · exact mayB_no (by rw [← HP.out]; omega)
  rintro e w3 ⟨A3, c3, rfl, hb3⟩
  have B3 := ((((B2.set 4 _).alloc _).alloc _).alloc _).bel hb3
  clear k0 k1 k2 k3 k4
  have k0 := B3.c 0 _ rfl
  have k1 := B3.c 1 _ rfl
  have k2 := B3.c 2 _ rfl
  have k3 := B3.c 3 _ rfl
  have k4 := B3.c 4 _ rfl
  have hbb3 := (bal (bal (bal (hbb2.setCell (Nat.le_refl _) _) _) _) _).trans (hb3.mono (by simp; omega))
  go_wp2_with fail
  refine (may_of (b := false) _ ?_).mono ?_
  · exact mayB_no (by rw [← HP.out]; omega)
  rintro e w4 ⟨rfl, hb4⟩
  go_wp2_with fail
  go_ret
  exact ⟨rfl, bt hbb3 hb4⟩
theorem tagWrong_walk (rp rg pl ix ic : Int) (a1 a2 : Nat) (w : World) (b0 : -9223372036854775808 ≤ rp) (b1 : rp ≤ 9223372036854775807) (b2 : -9223372036854775808 ≤ rg) (b3 : rg ≤ 9223372036854775807)
    (b4 : -9223372036854775808 ≤ pl) (b5 : pl ≤ 9223372036854775807) (b6 : -9223372036854775808 ≤ ix) (b7 : ix ≤ 9223372036854775807) (b8 : -9223372036854775808 ≤ ic) (b9 : ic ≤ 9223372036854775807) (w1 : a1 < 2 ^ 8) (w2 : a2 < 2 ^ 8) :
    Calls Try.prog 4 #[.agg #[.int .i64 rp, .int .i64 rg, .int .i64 pl, .int .i64 ix, .int .i64 ic], .int .u8 a1, .int .u8 a2] w (RetV w (.bool true)) := by
  cases hm0 : mayB rp rg pl ix ic
  · have HM := Lib.hid hm0
    clear hm0 b0 b1 b2 b3 b4 b5 b6 b7 b8 b9
    go_enter Try.func4, Try.ntmps4
    go_wp2_with fail
    refine (awake_any _).mono ?_
    rintro e w1 ⟨rfl, hb1⟩
    have B1 := (Blk.new w 29 #[.int .i64 rp, .int .i64 rg, .int .i64 pl, .int .i64 ix, .int .i64 ic]).bel hb1
    have hbb : Below w.heap.size w w1 := ((Below.refl _ _).alloc (Nat.le_refl _) _).trans (hb1.mono (by simp))
    have k0 := B1.c 0 (.int .i64 rp) rfl
    have k1 := B1.c 1 (.int .i64 rg) rfl
    have k2 := B1.c 2 (.int .i64 pl) rfl
    have k3 := B1.c 3 (.int .i64 ix) rfl
    have k4 := B1.c 4 (.int .i64 ic) rfl
    clear hb1
    go_wp2_with fail
    refine (may_of _ HM.out).mono ?_
    rintro e w1' ⟨rfl, hb1⟩
    go_wp2_with fail
    go_ret
    exact ⟨rfl, bt hbb hb1⟩
  · have h1 : a1 % 5 = 0 ∨ a1 % 5 = 1 ∨ a1 % 5 = 2 ∨ a1 % 5 = 3 ∨ a1 % 5 = 4 := by omega
    have h2 : a2 % 4 = 0 ∨ a2 % 4 = 1 ∨ a2 % 4 = 2 ∨ a2 % 4 = 3 := by omega
    rcases h1 with h1 | h1 | h1 | h1 | h1 <;> rcases h2 with h2 | h2 | h2 | h2
    · exact tagWrong_00 rp rg pl ix ic a1 a2 w hm0 h1 h2
    · exact tagWrong_01 rp rg pl ix ic a1 a2 w hm0 h1 h2
    · exact tagWrong_02 rp rg pl ix ic a1 a2 w hm0 h1 h2
    · exact tagWrong_03 rp rg pl ix ic a1 a2 w hm0 h1 h2
    · exact tagWrong_10 rp rg pl ix ic a1 a2 w hm0 h1 h2
    · exact tagWrong_11 rp rg pl ix ic a1 a2 w hm0 h1 h2
    · exact tagWrong_12 rp rg pl ix ic a1 a2 w hm0 h1 h2
    · exact tagWrong_13 rp rg pl ix ic a1 a2 w hm0 h1 h2
    · exact tagWrong_20 rp rg pl ix ic a1 a2 w hm0 h1 h2
    · exact tagWrong_21 rp rg pl ix ic a1 a2 w hm0 h1 h2
    · exact tagWrong_22 rp rg pl ix ic a1 a2 w hm0 h1 h2
    · exact tagWrong_23 rp rg pl ix ic a1 a2 w hm0 h1 h2
    · exact tagWrong_30 rp rg pl ix ic a1 a2 w hm0 h1 h2
    · exact tagWrong_31 rp rg pl ix ic a1 a2 w hm0 h1 h2
    · exact tagWrong_32 rp rg pl ix ic a1 a2 w hm0 h1 h2
    · exact tagWrong_33 rp rg pl ix ic a1 a2 w hm0 h1 h2
    · exact tagWrong_40 rp rg pl ix ic a1 a2 w hm0 h1 h2
    · exact tagWrong_41 rp rg pl ix ic a1 a2 w hm0 h1 h2
    · exact tagWrong_42 rp rg pl ix ic a1 a2 w hm0 h1 h2
    · exact tagWrong_43 rp rg pl ix ic a1 a2 w hm0 h1 h2
end Go.Proofs.Ytclnncchbeldcaa
