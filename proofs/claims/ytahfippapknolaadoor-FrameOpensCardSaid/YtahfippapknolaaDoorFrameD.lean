/-
  THE WALK OF THE REFERENCE's Open. (Printed by genframed.py.)
-/
import Derived.Test.YtahfippapknolaaDoorFramePlainD
import Derived.Test.YtahfippapknolaaDoorFrameC
import Derived.Test.YtahfippapknolaaDoorFrameB
namespace Go.Proofs.YtahfippapknolaaDoor
open Go.RowKit
set_option linter.unusedVariables false

theorem frN_two (l : List UInt8) (h : 1 < l.length) : frN l = (l[0]'(by omega)).toNat + 256 * (l[1]'h).toNat := by
  match l, h with
  | a :: b :: t, _ => exact leN_cons_two
theorem rparse_n (A : Option Addr) (c : Nat) (l : List UInt8) (n : Nat) (w : World) (hr : Rd w A l) (hm : l.length ≤ maxLen) (hn : n = l.length) :
    Calls Tryd.prog 27 #[.slice A n c] w (RetV w (.tuple #[tagW l, .int .i64 (tagP l)])) := by
  subst hn
  exact rparse_any A c l w hr hm
theorem rseal_n (rp rg pl ix ic : Int) (A : Option Addr) (c : Nat) (l : List UInt8) (n : Nat) (s : Int) (w : World) (hr : Rd w A l) (hn : n = l.length) : Calls Tryd.prog 28 #[.agg #[.int .i64 rp, .int .i64 rg, .int .i64 pl, .int .i64 ix, .int .i64 ic], .slice A n c, .int .i64 s] w (RetBI w (sealL rp rg pl ix ic l s) (sealE (mayB rp rg pl ix ic) l s)) := by
  subst hn
  exact rseal_any rp rg pl ix ic A c l s w hr
set_option maxHeartbeats 2000000 in
theorem ropen_len (A : Option Addr) (c : Nat) (l : List UInt8) (w : World) (hm : l.length ≤ maxLen) (h1 : l.length ≠ 64) (h2 : l.length ≠ 128) : Calls Tryd.prog 11 #[.slice A l.length c] w (RetF w 2 (.agg #[.int .i64 0, .int .i64 0, .int .i64 0, .int .i64 0, .int .i64 0]) []) := by
  have hm' := hm
  unfold maxLen at hm'
  by_cases h0 : l.length % 64 = 0
  · have g0 : ((l.length : Int) % 64 != 0) = false := by rw [bne_eq_false_iff_eq]; omega
    have HR : Hid (roomI ((l.length : Int) / 64) = 0) := Lib.hid (by unfold roomI; rw [if_neg (by omega), if_neg (by omega)])
    clear h0 h1 h2
    go_enter Tryd.func11, Tryd.ntmps11
    go_wp2_with fail
    refine (rroom_any _ _).mono ?_
    rw [HR.out]
    rintro e w1 ⟨rfl, rfl⟩
    go_wp2_with fail
    refine bodyPost_ret (v := .tuple #[.int .u8 2, .agg #[.int .i64 0, .int .i64 0, .int .i64 0, .int .i64 0, .int .i64 0], .slice none 0 0]) (by simp [results, Tryd.results11, go_sem]) rfl ⟨none, 0, rfl, Mine.nil _ _ _, Nat.le_refl _, Nat.zero_le _, bal0 _ _⟩
  · have g0 : ((l.length : Int) % 64 != 0) = true := by rw [bne_iff_ne]; omega
    clear h0 h1 h2
    go_enter Tryd.func11, Tryd.ntmps11
    go_wp2_with fail
    refine bodyPost_ret (v := .tuple #[.int .u8 2, .agg #[.int .i64 0, .int .i64 0, .int .i64 0, .int .i64 0, .int .i64 0], .slice none 0 0]) (by simp [results, Tryd.results11, go_sem]) rfl ⟨none, 0, rfl, Mine.nil _ _ _, Nat.le_refl _, Nat.zero_le _, bal0 _ _⟩
set_option maxHeartbeats 4000000 in
theorem ropen_blank_1 (A : Option Addr) (c : Nat) (l : List UInt8) (w : World) (hr : Rd w A l) (hc : l.length ≤ c) (hm : c ≤ maxLen) (hl : l.length = 64) (hz : zeroB l = true) : Calls Tryd.prog 11 #[.slice A l.length c] w (RetF w 0 (.agg #[.int .i64 0, .int .i64 0, .int .i64 0, .int .i64 0, .int .i64 0]) []) := by
  have HZ := Lib.hid hz
  have hlm : l.length ≤ maxLen := Nat.le_trans hc hm
  have HL : Hid (64 = l.length) := Lib.hid hl.symm
  rw [hl]
  clear hz hl
  go_enter Tryd.func11, Tryd.ntmps11
  go_wp2_with fail
  refine (rroom_any _ _).mono ?_
  rw [show roomI 1 = 43 from rfl]
  rintro e w1 ⟨rfl, rfl⟩
  go_wp2_with fail
  refine (blank_n A c l 64 _ (hr.alloc _) hlm HL.out).mono ?_
  rw [HZ.out]
  rintro e w1 ⟨rfl, rfl⟩
  go_wp2_with fail
  refine bodyPost_ret (v := .tuple #[.int .u8 0, .agg #[.int .i64 0, .int .i64 0, .int .i64 0, .int .i64 0, .int .i64 0], .slice none 0 0]) (by simp [results, Tryd.results11, go_sem]) rfl ⟨none, 0, rfl, Mine.nil _ _ _, Nat.le_refl _, Nat.zero_le _, bal0 _ _⟩
set_option maxHeartbeats 4000000 in
theorem ropen_tag_1 (A : Option Addr) (c : Nat) (l : List UInt8) (w : World) (hr : Rd w A l) (hc : l.length ≤ c) (hm : c ≤ maxLen) (hl : l.length = 64) (hz : zeroB l = false) (ht : tagB (frT l) = false) : Calls Tryd.prog 11 #[.slice A l.length c] w (RetF w 2 (.agg #[.int .i64 0, .int .i64 0, .int .i64 0, .int .i64 0, .int .i64 0]) []) := by
  have HZ := Lib.hid hz
  have hcm := hm
  unfold maxLen at hcm
  have hlm : l.length ≤ maxLen := Nat.le_trans hc hm
  obtain ⟨b, o, rfl, hcl⟩ := (hr.alloc (.cells #[.int .i64 0, .int .i64 0, .int .i64 0, .int .i64 0, .int .i64 0] 25)).at_ (k := 0) (by omega)
  have y0 := hcl 0 (by omega)
  have y1 := hcl 1 (by omega)
  clear hcl
  obtain ⟨x, HX⟩ : ∃ x, Hid (x = frN l) := ⟨_, Lib.hid rfl⟩
  obtain ⟨z0, Z0⟩ : ∃ z : Nat, Hid (z = (l[0]'(by omega)).toNat) := ⟨_, Lib.hid rfl⟩
  obtain ⟨z1, Z1⟩ : ∃ z : Nat, Hid (z = (l[1]'(by omega)).toNat) := ⟨_, Lib.hid rfl⟩
  have hz0 : z0 < 256 := by rw [Z0.out]; exact UInt8.toNat_lt _
  have hz1 : z1 < 256 := by rw [Z1.out]; exact UInt8.toNat_lt _
  rw [← Z0.out] at y0
  rw [← Z1.out] at y1
  have HX2 : Hid (z0 + 256 * z1 = x) := Lib.hid (by
    rw [HX.out, Z0.out, Z1.out]
    exact (frN_two l (by omega)).symm)
  have hx : x < 65536 := by rw [← HX2.out]; omega
  clear Z0 Z1
  rw [Nat.add_zero] at y0
  have q0 : IntKind.i64.wrap (z0 : Int) = z0 := by rw [IntKind.wrap_i64]; omega
  have q1 : IntKind.i64.wrap (z1 : Int) = z1 := by rw [IntKind.wrap_i64]; omega
  have q2 : IntKind.i64.wrap (256 * (z1 : Int)) = 256 * z1 := by rw [IntKind.wrap_i64]; omega
  have q3 : IntKind.i64.wrap ((z0 : Int) + 256 * z1) = x := by have := HX2.out; rw [IntKind.wrap_i64]; omega
  have hrT : Rd w (some ⟨b, o + 2, none⟩) (frT l) := Rd.cut hr b o 2 15 rfl (by omega)
  have HTl : Hid (15 = (frT l).length) := Lib.hid (by simp [frT]; omega)
  have hTm : (frT l).length ≤ maxLen := by rw [← HTl.out]; unfold maxLen; omega
  have hc64 : 64 ≤ c := by omega
  have n2 : ¬ c = 2 := by omega
  have HT : Hid (tagW (frT l) = .agg #[.int .i64 0, .int .i64 0, .int .i64 0, .int .i64 0, .int .i64 0] ∧ tagP (frT l) = 30) := Lib.hid (tagW_none ht)
  clear ht
  have HL : Hid (64 = l.length) := Lib.hid hl.symm
  rw [hl]
  clear hz hl
  go_enter Tryd.func11, Tryd.ntmps11
  go_wp2_with fail
  refine (rroom_any _ _).mono ?_
  rw [show roomI 1 = 43 from rfl]
  rintro e w1 ⟨rfl, rfl⟩
  go_wp2_with fail
  refine (blank_n (some ⟨b, o, none⟩) c l 64 _ (hr.alloc _) hlm HL.out).mono ?_
  rw [HZ.out]
  rintro e w1 ⟨rfl, rfl⟩
  go_wp2_with fail
  go_quiet (fail)
  clear q0 q1 q2 q3
  go_wp2_with fail
  refine (rparse_n (some ⟨b, o + 2, none⟩) (c - 2) (frT l) 15 _ ((hrT.alloc _).below (below_dr _ _)) hTm HTl.out).mono ?_
  rw [HT.out.1, HT.out.2]
  rintro e w2 ⟨rfl, hb2⟩
  have hbb2 : Below w.heap.size w w2 := bt (bt (bal0 w (.cells #[.int .i64 0, .int .i64 0, .int .i64 0, .int .i64 0, .int .i64 0] 25)) (below_dr _ _)) hb2
  have B2 := ((Blk.new w 25 #[.int .i64 0, .int .i64 0, .int .i64 0, .int .i64 0, .int .i64 0]).bel (below_dr _ _)).bel hb2
  clear hb2
  have B3 := B2.alloc (.cells #[.int .i64 0, .int .i64 0, .int .i64 0, .int .i64 0, .int .i64 0] 25)
  have f0 := B3.frozen
  have c0 := B3.c 0 (.int .i64 0) rfl
  have c1 := B3.c 1 (.int .i64 0) rfl
  have c2 := B3.c 2 (.int .i64 0) rfl
  have c3 := B3.c 3 (.int .i64 0) rfl
  have c4 := B3.c 4 (.int .i64 0) rfl
  go_wp2_with fail
  refine bodyPost_ret (v := .tuple #[.int .u8 2, .agg #[.int .i64 0, .int .i64 0, .int .i64 0, .int .i64 0, .int .i64 0], .slice none 0 0]) (by simp [results, Tryd.results11, go_sem, c0, c1, c2, c3, c4]) rfl ⟨none, 0, rfl, Mine.nil _ _ _, Nat.le_refl _, Nat.zero_le _, ?_⟩
  exact ((((((hbb2.alloc hbb2.size _).setCell (Nat.le_refl _) _).setCell (Nat.le_refl _) _).setCell (Nat.le_refl _) _).setCell (Nat.le_refl _) _).setCell (Nat.le_refl _) _)
set_option maxHeartbeats 4000000 in
theorem ropen_room_1 (A : Option Addr) (c : Nat) (l : List UInt8) (w : World) (hr : Rd w A l) (hc : l.length ≤ c) (hm : c ≤ maxLen) (hl : l.length = 64) (hz : zeroB l = false) (ht : tagB (frT l) = true) (hn : 43 < frN l) : Calls Tryd.prog 11 #[.slice A l.length c] w (RetF w 2 (.agg #[.int .i64 0, .int .i64 0, .int .i64 0, .int .i64 0, .int .i64 0]) []) := by
  have HZ := Lib.hid hz
  have hcm := hm
  unfold maxLen at hcm
  have hlm : l.length ≤ maxLen := Nat.le_trans hc hm
  obtain ⟨b, o, rfl, hcl⟩ := (hr.alloc (.cells #[.int .i64 0, .int .i64 0, .int .i64 0, .int .i64 0, .int .i64 0] 25)).at_ (k := 0) (by omega)
  have y0 := hcl 0 (by omega)
  have y1 := hcl 1 (by omega)
  clear hcl
  obtain ⟨x, HX⟩ : ∃ x, Hid (x = frN l) := ⟨_, Lib.hid rfl⟩
  obtain ⟨z0, Z0⟩ : ∃ z : Nat, Hid (z = (l[0]'(by omega)).toNat) := ⟨_, Lib.hid rfl⟩
  obtain ⟨z1, Z1⟩ : ∃ z : Nat, Hid (z = (l[1]'(by omega)).toNat) := ⟨_, Lib.hid rfl⟩
  have hz0 : z0 < 256 := by rw [Z0.out]; exact UInt8.toNat_lt _
  have hz1 : z1 < 256 := by rw [Z1.out]; exact UInt8.toNat_lt _
  rw [← Z0.out] at y0
  rw [← Z1.out] at y1
  have HX2 : Hid (z0 + 256 * z1 = x) := Lib.hid (by
    rw [HX.out, Z0.out, Z1.out]
    exact (frN_two l (by omega)).symm)
  have hx : x < 65536 := by rw [← HX2.out]; omega
  clear Z0 Z1
  rw [Nat.add_zero] at y0
  have q0 : IntKind.i64.wrap (z0 : Int) = z0 := by rw [IntKind.wrap_i64]; omega
  have q1 : IntKind.i64.wrap (z1 : Int) = z1 := by rw [IntKind.wrap_i64]; omega
  have q2 : IntKind.i64.wrap (256 * (z1 : Int)) = 256 * z1 := by rw [IntKind.wrap_i64]; omega
  have q3 : IntKind.i64.wrap ((z0 : Int) + 256 * z1) = x := by have := HX2.out; rw [IntKind.wrap_i64]; omega
  have hrT : Rd w (some ⟨b, o + 2, none⟩) (frT l) := Rd.cut hr b o 2 15 rfl (by omega)
  have HTl : Hid (15 = (frT l).length) := Lib.hid (by simp [frT]; omega)
  have hTm : (frT l).length ≤ maxLen := by rw [← HTl.out]; unfold maxLen; omega
  have hc64 : 64 ≤ c := by omega
  have n2 : ¬ c = 2 := by omega
  obtain ⟨f0, F0⟩ : ∃ f, Hid (f = getN (frT l) 0 1) := ⟨_, Lib.hid rfl⟩
  obtain ⟨f1, F1⟩ : ∃ f, Hid (f = getN (frT l) 1 1) := ⟨_, Lib.hid rfl⟩
  obtain ⟨f2, F2⟩ : ∃ f, Hid (f = getN (frT l) 2 1) := ⟨_, Lib.hid rfl⟩
  obtain ⟨f3, F3⟩ : ∃ f, Hid (f = getN (frT l) 3 6) := ⟨_, Lib.hid rfl⟩
  obtain ⟨f4, F4⟩ : ∃ f, Hid (f = getN (frT l) 9 6) := ⟨_, Lib.hid rfl⟩
  have HT : Hid (tagW (frT l) = .agg #[.int .i64 f0, .int .i64 f1, .int .i64 f2, .int .i64 f3, .int .i64 f4] ∧ tagP (frT l) = 0) := Lib.hid (by
    have := tagW_some ht
    rw [← F0.out, ← F1.out, ← F2.out, ← F3.out, ← F4.out] at this
    exact this)
  have hxr : (43 : Int) < x := by rw [HX.out]; omega
  clear ht hn
  have HL : Hid (64 = l.length) := Lib.hid hl.symm
  rw [hl]
  clear hz hl
  go_enter Tryd.func11, Tryd.ntmps11
  go_wp2_with fail
  refine (rroom_any _ _).mono ?_
  rw [show roomI 1 = 43 from rfl]
  rintro e w1 ⟨rfl, rfl⟩
  go_wp2_with fail
  refine (blank_n (some ⟨b, o, none⟩) c l 64 _ (hr.alloc _) hlm HL.out).mono ?_
  rw [HZ.out]
  rintro e w1 ⟨rfl, rfl⟩
  go_wp2_with fail
  go_quiet (fail)
  clear q0 q1 q2 q3
  go_wp2_with fail
  refine (rparse_n (some ⟨b, o + 2, none⟩) (c - 2) (frT l) 15 _ ((hrT.alloc _).below (below_dr _ _)) hTm HTl.out).mono ?_
  rw [HT.out.1, HT.out.2]
  rintro e w2 ⟨rfl, hb2⟩
  have hbb2 : Below w.heap.size w w2 := bt (bt (bal0 w (.cells #[.int .i64 0, .int .i64 0, .int .i64 0, .int .i64 0, .int .i64 0] 25)) (below_dr _ _)) hb2
  have B2 := ((Blk.new w 25 #[.int .i64 0, .int .i64 0, .int .i64 0, .int .i64 0, .int .i64 0]).bel (below_dr _ _)).bel hb2
  clear hb2
  have B3 := B2.alloc (.cells #[.int .i64 f0, .int .i64 f1, .int .i64 f2, .int .i64 f3, .int .i64 f4] 25)
  have f0 := B3.frozen
  have c0 := B3.c 0 (.int .i64 0) rfl
  have c1 := B3.c 1 (.int .i64 0) rfl
  have c2 := B3.c 2 (.int .i64 0) rfl
  have c3 := B3.c 3 (.int .i64 0) rfl
  have c4 := B3.c 4 (.int .i64 0) rfl
  go_wp2_with fail
  refine (rroom_any _ _).mono ?_
  rw [show roomI 1 = 43 from rfl]
  rintro e w1 ⟨rfl, rfl⟩
  go_wp2_with fail
  refine bodyPost_ret (v := .tuple #[.int .u8 2, .agg #[.int .i64 0, .int .i64 0, .int .i64 0, .int .i64 0, .int .i64 0], .slice none 0 0]) (by simp [results, Tryd.results11, go_sem, c0, c1, c2, c3, c4]) rfl ⟨none, 0, rfl, Mine.nil _ _ _, Nat.le_refl _, Nat.zero_le _, ?_⟩
  exact ((((((hbb2.alloc hbb2.size _).setCell (Nat.le_refl _) _).setCell (Nat.le_refl _) _).setCell (Nat.le_refl _) _).setCell (Nat.le_refl _) _).setCell (Nat.le_refl _) _)
set_option maxHeartbeats 4000000 in
theorem ropen_bad_1 (A : Option Addr) (c : Nat) (l : List UInt8) (w : World) (hr : Rd w A l) (hc : l.length ≤ c) (hm : c ≤ maxLen) (hl : l.length = 64) (hz : zeroB l = false) (ht : tagB (frT l) = true) (hn : frN l ≤ 43) (hg : frG l = false) : Calls Tryd.prog 11 #[.slice A l.length c] w (RetF w 2 (.agg #[.int .i64 0, .int .i64 0, .int .i64 0, .int .i64 0, .int .i64 0]) []) := by
  have hseal := seal_own (l := l) (by unfold okLen; rw [hl]; rfl) ht (by unfold frRoom; rw [hl]; exact hn) hz
  rw [hg, hl] at hseal
  have HZ := Lib.hid hz
  have hcm := hm
  unfold maxLen at hcm
  have hlm : l.length ≤ maxLen := Nat.le_trans hc hm
  obtain ⟨b, o, rfl, hcl⟩ := (hr.alloc (.cells #[.int .i64 0, .int .i64 0, .int .i64 0, .int .i64 0, .int .i64 0] 25)).at_ (k := 0) (by omega)
  have y0 := hcl 0 (by omega)
  have y1 := hcl 1 (by omega)
  clear hcl
  obtain ⟨x, HX⟩ : ∃ x, Hid (x = frN l) := ⟨_, Lib.hid rfl⟩
  obtain ⟨z0, Z0⟩ : ∃ z : Nat, Hid (z = (l[0]'(by omega)).toNat) := ⟨_, Lib.hid rfl⟩
  obtain ⟨z1, Z1⟩ : ∃ z : Nat, Hid (z = (l[1]'(by omega)).toNat) := ⟨_, Lib.hid rfl⟩
  have hz0 : z0 < 256 := by rw [Z0.out]; exact UInt8.toNat_lt _
  have hz1 : z1 < 256 := by rw [Z1.out]; exact UInt8.toNat_lt _
  rw [← Z0.out] at y0
  rw [← Z1.out] at y1
  have HX2 : Hid (z0 + 256 * z1 = x) := Lib.hid (by
    rw [HX.out, Z0.out, Z1.out]
    exact (frN_two l (by omega)).symm)
  have hx : x < 65536 := by rw [← HX2.out]; omega
  clear Z0 Z1
  rw [Nat.add_zero] at y0
  have q0 : IntKind.i64.wrap (z0 : Int) = z0 := by rw [IntKind.wrap_i64]; omega
  have q1 : IntKind.i64.wrap (z1 : Int) = z1 := by rw [IntKind.wrap_i64]; omega
  have q2 : IntKind.i64.wrap (256 * (z1 : Int)) = 256 * z1 := by rw [IntKind.wrap_i64]; omega
  have q3 : IntKind.i64.wrap ((z0 : Int) + 256 * z1) = x := by have := HX2.out; rw [IntKind.wrap_i64]; omega
  have hrT : Rd w (some ⟨b, o + 2, none⟩) (frT l) := Rd.cut hr b o 2 15 rfl (by omega)
  have HTl : Hid (15 = (frT l).length) := Lib.hid (by simp [frT]; omega)
  have hTm : (frT l).length ≤ maxLen := by rw [← HTl.out]; unfold maxLen; omega
  have hc64 : 64 ≤ c := by omega
  have n2 : ¬ c = 2 := by omega
  obtain ⟨f0, F0⟩ : ∃ f, Hid (f = getN (frT l) 0 1) := ⟨_, Lib.hid rfl⟩
  obtain ⟨f1, F1⟩ : ∃ f, Hid (f = getN (frT l) 1 1) := ⟨_, Lib.hid rfl⟩
  obtain ⟨f2, F2⟩ : ∃ f, Hid (f = getN (frT l) 2 1) := ⟨_, Lib.hid rfl⟩
  obtain ⟨f3, F3⟩ : ∃ f, Hid (f = getN (frT l) 3 6) := ⟨_, Lib.hid rfl⟩
  obtain ⟨f4, F4⟩ : ∃ f, Hid (f = getN (frT l) 9 6) := ⟨_, Lib.hid rfl⟩
  have HT : Hid (tagW (frT l) = .agg #[.int .i64 f0, .int .i64 f1, .int .i64 f2, .int .i64 f3, .int .i64 f4] ∧ tagP (frT l) = 0) := Lib.hid (by
    have := tagW_some ht
    rw [← F0.out, ← F1.out, ← F2.out, ← F3.out, ← F4.out] at this
    exact this)
  have hxr : decide ((43 : Int) < x) = false := decide_eq_false (by rw [HX.out]; omega)
  have hxr2 : x ≤ 43 := by rw [HX.out]; exact hn
  have n17 : ¬ c = 17 := by omega
  obtain ⟨D, HD⟩ : ∃ D, Hid (D = (l.drop 17).take (frN l)) := ⟨_, Lib.hid rfl⟩
  have hrD : Rd w (some ⟨b, o + 17, none⟩) D := by rw [HD.out]; exact Rd.cut hr b o 17 (frN l) rfl (by omega)
  have HDl : Hid (x = D.length) := Lib.hid (by rw [HD.out, HX.out]; simp; omega)
  have hDm : D.length ≤ 140737488355328 := by rw [← HDl.out]; omega
  rw [← HD.out, ← F0.out, ← F1.out, ← F2.out, ← F3.out, ← F4.out] at hseal
  obtain ⟨S, HS⟩ : ∃ S, Hid (S = sealL f0 f1 f2 f3 f4 D 1) := ⟨_, Lib.hid rfl⟩
  have hmay : mayB f0 f1 f2 f3 f4 = true := by rw [F0.out, F1.out, F2.out, F3.out, F4.out]; exact (tag_print_parse ht).1
  have hSE : sealE (mayB f0 f1 f2 f3 f4) D 1 = 0 := by
    unfold sealE
    rw [hmay, show roomI 1 = 43 from rfl, if_neg (by simp), if_neg (by rw [← HDl.out]; omega)]
  have HSE := Lib.hid hSE
  have hSL : S = frmL 64 (tagL f0 f1 f2 f3 f4) D := by
    rw [HS.out]
    unfold sealL
    rw [hSE, if_pos rfl]
    rfl
  have HSm : S.length ≤ maxLen := by rw [hSL, frmL_length _ _ _ (by rw [tagL_length, hmay]; rfl) (by rw [← HDl.out]; omega) (by rw [← HDl.out]; omega)]; decide
  have HEQ : Hid (eqB S l = false) := Lib.hid (by
    unfold eqB
    rw [hSL]
    exact decide_eq_false (fun e => by have := hseal.1 e; cases this))

  clear ht hn hg hseal hmay hSE hSL
  have HL : Hid (64 = l.length) := Lib.hid hl.symm
  rw [hl]
  clear hz hl
  go_enter Tryd.func11, Tryd.ntmps11
  go_wp2_with fail
  refine (rroom_any _ _).mono ?_
  rw [show roomI 1 = 43 from rfl]
  rintro e w1 ⟨rfl, rfl⟩
  go_wp2_with fail
  refine (blank_n (some ⟨b, o, none⟩) c l 64 _ (hr.alloc _) hlm HL.out).mono ?_
  rw [HZ.out]
  rintro e w1 ⟨rfl, rfl⟩
  go_wp2_with fail
  go_quiet (fail)
  clear q0 q1 q2 q3
  go_wp2_with fail
  refine (rparse_n (some ⟨b, o + 2, none⟩) (c - 2) (frT l) 15 _ ((hrT.alloc _).below (below_dr _ _)) hTm HTl.out).mono ?_
  rw [HT.out.1, HT.out.2]
  rintro e w2 ⟨rfl, hb2⟩
  have hbb2 : Below w.heap.size w w2 := bt (bt (bal0 w (.cells #[.int .i64 0, .int .i64 0, .int .i64 0, .int .i64 0, .int .i64 0] 25)) (below_dr _ _)) hb2
  have B2 := ((Blk.new w 25 #[.int .i64 0, .int .i64 0, .int .i64 0, .int .i64 0, .int .i64 0]).bel (below_dr _ _)).bel hb2
  clear hb2
  have hbb3 : Below w.heap.size w (w2.alloc (.cells #[.int .i64 f0, .int .i64 f1, .int .i64 f2, .int .i64 f3, .int .i64 f4] 25)) := hbb2.alloc hbb2.size _
  have B3 := B2.alloc (.cells #[.int .i64 f0, .int .i64 f1, .int .i64 f2, .int .i64 f3, .int .i64 f4] 25)
  have C3 := Blk.new w2 25 #[.int .i64 f0, .int .i64 f1, .int .i64 f2, .int .i64 f3, .int .i64 f4]
  have hlt2 : w.heap.size < w2.heap.size := B2.lt
  go_wp2_with fail
  refine (rroom_any _ _).mono ?_
  rw [show roomI 1 = 43 from rfl]
  rintro e w1 ⟨rfl, rfl⟩
  go_wp2_with fail
  refine (copy_n (some ⟨b, o + 17, none⟩) _ D _ _ (hrD.below hbb3) hDm (by rw [← HDl.out]; try omega)).mono ?_
  rintro e w4 ⟨A4, c4, rfl, hown4, hb4⟩
  have hbb4 := bt hbb3 hb4
  have B4 := B3.bel hb4
  have C4 := C3.bel hb4
  clear hb4 B3 C3
  have d0 := C4.c 0 (.int .i64 f0) rfl
  have d1 := C4.c 1 (.int .i64 f1) rfl
  have d2 := C4.c 2 (.int .i64 f2) rfl
  have d3 := C4.c 3 (.int .i64 f3) rfl
  have d4 := C4.c 4 (.int .i64 f4) rfl
  go_wp2_with fail
  refine (rseal_n f0 f1 f2 f3 f4 A4 c4 D _ 1 _ hown4.rd (by rfl)).mono ?_
  rw [← HS.out, HSE.out]
  rintro e w5 ⟨A5, c5, rfl, hown5, hb5⟩
  have hbb5 := bt hbb4 hb5
  have B5 := B4.bel hb5
  have C5 := C4.bel hb5
  have hown4' := hown4.below hb5
  clear d0 d1 d2 d3 d4
  clear hb5 B4 C4
  go_wp2_with fail
  refine (same_n A5 (some ⟨b, o, none⟩) c5 c S l _ 64 _ hown5.rd (hr.below hbb5) HSm hlm rfl HL.out).mono ?_
  rw [HEQ.out]
  rintro e w6 ⟨rfl, hb6⟩
  have hbb6 := bt hbb5 hb6
  have B6 := B5.bel hb6
  have C6 := C5.bel hb6
  have hown6 := hown4'.below hb6
  have fz := B6.frozen
  have c0 := B6.c 0 (.int .i64 0) rfl
  have c1 := B6.c 1 (.int .i64 0) rfl
  have c2 := B6.c 2 (.int .i64 0) rfl
  have c3 := B6.c 3 (.int .i64 0) rfl
  have c4_ := B6.c 4 (.int .i64 0) rfl
  go_wp2_with fail
  refine bodyPost_ret (v := .tuple #[.int .u8 2, .agg #[.int .i64 0, .int .i64 0, .int .i64 0, .int .i64 0, .int .i64 0], .slice none 0 0]) (by simp [results, Tryd.results11, go_sem, c0, c1, c2, c3, c4_]) rfl ⟨none, 0, rfl, Mine.nil _ _ _, Nat.le_refl _, Nat.zero_le _, ?_⟩
  exact ((((((hbb6).setCell (Nat.le_refl _) _).setCell (Nat.le_refl _) _).setCell (Nat.le_refl _) _).setCell (Nat.le_refl _) _).setCell (Nat.le_refl _) _)
set_option maxHeartbeats 4000000 in
theorem ropen_good_1 (A : Option Addr) (c : Nat) (l : List UInt8) (w : World) (hr : Rd w A l) (hc : l.length ≤ c) (hm : c ≤ maxLen) (hl : l.length = 64) (hz : zeroB l = false) (ht : tagB (frT l) = true) (hn : frN l ≤ 43) (hg : frG l = true) : Calls Tryd.prog 11 #[.slice A l.length c] w (RetF w 1 (.agg #[.int .i64 (getN (frT l) 0 1), .int .i64 (getN (frT l) 1 1), .int .i64 (getN (frT l) 2 1), .int .i64 (getN (frT l) 3 6), .int .i64 (getN (frT l) 9 6)]) ((l.drop 17).take (frN l))) := by
  have hseal := seal_own (l := l) (by unfold okLen; rw [hl]; rfl) ht (by unfold frRoom; rw [hl]; exact hn) hz
  rw [hg, hl] at hseal
  have HZ := Lib.hid hz
  have hcm := hm
  unfold maxLen at hcm
  have hlm : l.length ≤ maxLen := Nat.le_trans hc hm
  obtain ⟨b, o, rfl, hcl⟩ := (hr.alloc (.cells #[.int .i64 0, .int .i64 0, .int .i64 0, .int .i64 0, .int .i64 0] 25)).at_ (k := 0) (by omega)
  have y0 := hcl 0 (by omega)
  have y1 := hcl 1 (by omega)
  clear hcl
  obtain ⟨x, HX⟩ : ∃ x, Hid (x = frN l) := ⟨_, Lib.hid rfl⟩
  obtain ⟨z0, Z0⟩ : ∃ z : Nat, Hid (z = (l[0]'(by omega)).toNat) := ⟨_, Lib.hid rfl⟩
  obtain ⟨z1, Z1⟩ : ∃ z : Nat, Hid (z = (l[1]'(by omega)).toNat) := ⟨_, Lib.hid rfl⟩
  have hz0 : z0 < 256 := by rw [Z0.out]; exact UInt8.toNat_lt _
  have hz1 : z1 < 256 := by rw [Z1.out]; exact UInt8.toNat_lt _
  rw [← Z0.out] at y0
  rw [← Z1.out] at y1
  have HX2 : Hid (z0 + 256 * z1 = x) := Lib.hid (by
    rw [HX.out, Z0.out, Z1.out]
    exact (frN_two l (by omega)).symm)
  have hx : x < 65536 := by rw [← HX2.out]; omega
  clear Z0 Z1
  rw [Nat.add_zero] at y0
  have q0 : IntKind.i64.wrap (z0 : Int) = z0 := by rw [IntKind.wrap_i64]; omega
  have q1 : IntKind.i64.wrap (z1 : Int) = z1 := by rw [IntKind.wrap_i64]; omega
  have q2 : IntKind.i64.wrap (256 * (z1 : Int)) = 256 * z1 := by rw [IntKind.wrap_i64]; omega
  have q3 : IntKind.i64.wrap ((z0 : Int) + 256 * z1) = x := by have := HX2.out; rw [IntKind.wrap_i64]; omega
  have hrT : Rd w (some ⟨b, o + 2, none⟩) (frT l) := Rd.cut hr b o 2 15 rfl (by omega)
  have HTl : Hid (15 = (frT l).length) := Lib.hid (by simp [frT]; omega)
  have hTm : (frT l).length ≤ maxLen := by rw [← HTl.out]; unfold maxLen; omega
  have hc64 : 64 ≤ c := by omega
  have n2 : ¬ c = 2 := by omega
  obtain ⟨f0, F0⟩ : ∃ f, Hid (f = getN (frT l) 0 1) := ⟨_, Lib.hid rfl⟩
  obtain ⟨f1, F1⟩ : ∃ f, Hid (f = getN (frT l) 1 1) := ⟨_, Lib.hid rfl⟩
  obtain ⟨f2, F2⟩ : ∃ f, Hid (f = getN (frT l) 2 1) := ⟨_, Lib.hid rfl⟩
  obtain ⟨f3, F3⟩ : ∃ f, Hid (f = getN (frT l) 3 6) := ⟨_, Lib.hid rfl⟩
  obtain ⟨f4, F4⟩ : ∃ f, Hid (f = getN (frT l) 9 6) := ⟨_, Lib.hid rfl⟩
  have HT : Hid (tagW (frT l) = .agg #[.int .i64 f0, .int .i64 f1, .int .i64 f2, .int .i64 f3, .int .i64 f4] ∧ tagP (frT l) = 0) := Lib.hid (by
    have := tagW_some ht
    rw [← F0.out, ← F1.out, ← F2.out, ← F3.out, ← F4.out] at this
    exact this)
  have hxr : decide ((43 : Int) < x) = false := decide_eq_false (by rw [HX.out]; omega)
  have hxr2 : x ≤ 43 := by rw [HX.out]; exact hn
  have n17 : ¬ c = 17 := by omega
  obtain ⟨D, HD⟩ : ∃ D, Hid (D = (l.drop 17).take (frN l)) := ⟨_, Lib.hid rfl⟩
  have hrD : Rd w (some ⟨b, o + 17, none⟩) D := by rw [HD.out]; exact Rd.cut hr b o 17 (frN l) rfl (by omega)
  have HDl : Hid (x = D.length) := Lib.hid (by rw [HD.out, HX.out]; simp; omega)
  have hDm : D.length ≤ 140737488355328 := by rw [← HDl.out]; omega
  rw [← HD.out, ← F0.out, ← F1.out, ← F2.out, ← F3.out, ← F4.out] at hseal
  obtain ⟨S, HS⟩ : ∃ S, Hid (S = sealL f0 f1 f2 f3 f4 D 1) := ⟨_, Lib.hid rfl⟩
  have hmay : mayB f0 f1 f2 f3 f4 = true := by rw [F0.out, F1.out, F2.out, F3.out, F4.out]; exact (tag_print_parse ht).1
  have hSE : sealE (mayB f0 f1 f2 f3 f4) D 1 = 0 := by
    unfold sealE
    rw [hmay, show roomI 1 = 43 from rfl, if_neg (by simp), if_neg (by rw [← HDl.out]; omega)]
  have HSE := Lib.hid hSE
  have hSL : S = frmL 64 (tagL f0 f1 f2 f3 f4) D := by
    rw [HS.out]
    unfold sealL
    rw [hSE, if_pos rfl]
    rfl
  have HSm : S.length ≤ maxLen := by rw [hSL, frmL_length _ _ _ (by rw [tagL_length, hmay]; rfl) (by rw [← HDl.out]; omega) (by rw [← HDl.out]; omega)]; decide
  have HEQ : Hid (eqB S l = true) := Lib.hid (by
    unfold eqB
    rw [hSL]
    exact decide_eq_true (hseal.2 rfl))
  rw [← HD.out, ← F0.out, ← F1.out, ← F2.out, ← F3.out, ← F4.out]
  clear ht hn hg hseal hmay hSE hSL
  have HL : Hid (64 = l.length) := Lib.hid hl.symm
  rw [hl]
  clear hz hl
  go_enter Tryd.func11, Tryd.ntmps11
  go_wp2_with fail
  refine (rroom_any _ _).mono ?_
  rw [show roomI 1 = 43 from rfl]
  rintro e w1 ⟨rfl, rfl⟩
  go_wp2_with fail
  refine (blank_n (some ⟨b, o, none⟩) c l 64 _ (hr.alloc _) hlm HL.out).mono ?_
  rw [HZ.out]
  rintro e w1 ⟨rfl, rfl⟩
  go_wp2_with fail
  go_quiet (fail)
  clear q0 q1 q2 q3
  go_wp2_with fail
  refine (rparse_n (some ⟨b, o + 2, none⟩) (c - 2) (frT l) 15 _ ((hrT.alloc _).below (below_dr _ _)) hTm HTl.out).mono ?_
  rw [HT.out.1, HT.out.2]
  rintro e w2 ⟨rfl, hb2⟩
  have hbb2 : Below w.heap.size w w2 := bt (bt (bal0 w (.cells #[.int .i64 0, .int .i64 0, .int .i64 0, .int .i64 0, .int .i64 0] 25)) (below_dr _ _)) hb2
  have B2 := ((Blk.new w 25 #[.int .i64 0, .int .i64 0, .int .i64 0, .int .i64 0, .int .i64 0]).bel (below_dr _ _)).bel hb2
  clear hb2
  have hbb3 : Below w.heap.size w (w2.alloc (.cells #[.int .i64 f0, .int .i64 f1, .int .i64 f2, .int .i64 f3, .int .i64 f4] 25)) := hbb2.alloc hbb2.size _
  have B3 := B2.alloc (.cells #[.int .i64 f0, .int .i64 f1, .int .i64 f2, .int .i64 f3, .int .i64 f4] 25)
  have C3 := Blk.new w2 25 #[.int .i64 f0, .int .i64 f1, .int .i64 f2, .int .i64 f3, .int .i64 f4]
  have hlt2 : w.heap.size < w2.heap.size := B2.lt
  go_wp2_with fail
  refine (rroom_any _ _).mono ?_
  rw [show roomI 1 = 43 from rfl]
  rintro e w1 ⟨rfl, rfl⟩
  go_wp2_with fail
  refine (copy_n (some ⟨b, o + 17, none⟩) _ D _ _ (hrD.below hbb3) hDm (by rw [← HDl.out]; try omega)).mono ?_
  rintro e w4 ⟨A4, c4, rfl, hown4, hb4⟩
  have hbb4 := bt hbb3 hb4
  have B4 := B3.bel hb4
  have C4 := C3.bel hb4
  clear hb4 B3 C3
  have d0 := C4.c 0 (.int .i64 f0) rfl
  have d1 := C4.c 1 (.int .i64 f1) rfl
  have d2 := C4.c 2 (.int .i64 f2) rfl
  have d3 := C4.c 3 (.int .i64 f3) rfl
  have d4 := C4.c 4 (.int .i64 f4) rfl
  go_wp2_with fail
  refine (rseal_n f0 f1 f2 f3 f4 A4 c4 D _ 1 _ hown4.rd (by rfl)).mono ?_
  rw [← HS.out, HSE.out]
  rintro e w5 ⟨A5, c5, rfl, hown5, hb5⟩
  have hbb5 := bt hbb4 hb5
  have B5 := B4.bel hb5
  have C5 := C4.bel hb5
  have hown4' := hown4.below hb5
  clear d0 d1 d2 d3 d4
  clear hb5 B4 C4
  go_wp2_with fail
  refine (same_n A5 (some ⟨b, o, none⟩) c5 c S l _ 64 _ hown5.rd (hr.below hbb5) HSm hlm rfl HL.out).mono ?_
  rw [HEQ.out]
  rintro e w6 ⟨rfl, hb6⟩
  have hbb6 := bt hbb5 hb6
  have B6 := B5.bel hb6
  have C6 := C5.bel hb6
  have hown6 := hown4'.below hb6
  have fz := B6.frozen
  have c0 := B6.c 0 (.int .i64 0) rfl
  have c1 := B6.c 1 (.int .i64 0) rfl
  have c2 := B6.c 2 (.int .i64 0) rfl
  have c3 := B6.c 3 (.int .i64 0) rfl
  have c4_ := B6.c 4 (.int .i64 0) rfl
  have d0 := C6.c 0 (.int .i64 f0) rfl
  have d1 := C6.c 1 (.int .i64 f1) rfl
  have d2 := C6.c 2 (.int .i64 f2) rfl
  have d3 := C6.c 3 (.int .i64 f3) rfl
  have d4 := C6.c 4 (.int .i64 f4) rfl
  have hcap := hown6.caps
  have hsz : w.heap.size < (w2.alloc (.cells #[.int .i64 f0, .int .i64 f1, .int .i64 f2, .int .i64 f3, .int .i64 f4] 25)).heap.size := by simp; omega
  have hszm := Nat.le_of_lt hsz
  have hne0 : w2.heap.size ≠ w.heap.size := by omega
  have hne1 : w.heap.size ≠ w2.heap.size := by omega
  rw [← HDl.out] at hcap
  go_wp2_with fail
  go_region_held3 (fun w' => w'.cell? ⟨w2.heap.size, 0, none⟩ = some (.int .i64 f0) ∧ w'.cell? ⟨w2.heap.size, 1, none⟩ = some (.int .i64 f1) ∧ w'.cell? ⟨w2.heap.size, 2, none⟩ = some (.int .i64 f2) ∧ w'.cell? ⟨w2.heap.size, 3, none⟩ = some (.int .i64 f3) ∧ w'.cell? ⟨w2.heap.size, 4, none⟩ = some (.int .i64 f4)) (go_keep) (first | fail)
  all_goals
    go_wp2_with fail
    refine bodyPost_ret (v := .tuple #[.int .u8 1, .agg #[.int .i64 f0, .int .i64 f1, .int .i64 f2, .int .i64 f3, .int .i64 f4], .slice A4 D.length c4]) (by simp [results, Tryd.results11, go_sem, c0, c1, c2, c3, c4_]) rfl ⟨A4, c4, rfl, ?_, hown6.caps.1, hown6.caps.2, ?_⟩
    · exact (((((((hown6.put hsz _).put hsz _).put hsz _).put hsz _).put hsz _).drew).mono hszm).mine
    · exact (((((((hbb6).setCell (Nat.le_refl _) _).setCell (Nat.le_refl _) _).setCell (Nat.le_refl _) _).setCell (Nat.le_refl _) _).setCell (Nat.le_refl _) _)).drew
set_option maxHeartbeats 4000000 in
theorem ropen_blank_2 (A : Option Addr) (c : Nat) (l : List UInt8) (w : World) (hr : Rd w A l) (hc : l.length ≤ c) (hm : c ≤ maxLen) (hl : l.length = 128) (hz : zeroB l = true) : Calls Tryd.prog 11 #[.slice A l.length c] w (RetF w 0 (.agg #[.int .i64 0, .int .i64 0, .int .i64 0, .int .i64 0, .int .i64 0]) []) := by
  have HZ := Lib.hid hz
  have hlm : l.length ≤ maxLen := Nat.le_trans hc hm
  have HL : Hid (128 = l.length) := Lib.hid hl.symm
  rw [hl]
  clear hz hl
  go_enter Tryd.func11, Tryd.ntmps11
  go_wp2_with fail
  refine (rroom_any _ _).mono ?_
  rw [show roomI 2 = 88 from rfl]
  rintro e w1 ⟨rfl, rfl⟩
  go_wp2_with fail
  refine (blank_n A c l 128 _ (hr.alloc _) hlm HL.out).mono ?_
  rw [HZ.out]
  rintro e w1 ⟨rfl, rfl⟩
  go_wp2_with fail
  refine bodyPost_ret (v := .tuple #[.int .u8 0, .agg #[.int .i64 0, .int .i64 0, .int .i64 0, .int .i64 0, .int .i64 0], .slice none 0 0]) (by simp [results, Tryd.results11, go_sem]) rfl ⟨none, 0, rfl, Mine.nil _ _ _, Nat.le_refl _, Nat.zero_le _, bal0 _ _⟩
set_option maxHeartbeats 4000000 in
theorem ropen_tag_2 (A : Option Addr) (c : Nat) (l : List UInt8) (w : World) (hr : Rd w A l) (hc : l.length ≤ c) (hm : c ≤ maxLen) (hl : l.length = 128) (hz : zeroB l = false) (ht : tagB (frT l) = false) : Calls Tryd.prog 11 #[.slice A l.length c] w (RetF w 2 (.agg #[.int .i64 0, .int .i64 0, .int .i64 0, .int .i64 0, .int .i64 0]) []) := by
  have HZ := Lib.hid hz
  have hcm := hm
  unfold maxLen at hcm
  have hlm : l.length ≤ maxLen := Nat.le_trans hc hm
  obtain ⟨b, o, rfl, hcl⟩ := (hr.alloc (.cells #[.int .i64 0, .int .i64 0, .int .i64 0, .int .i64 0, .int .i64 0] 25)).at_ (k := 0) (by omega)
  have y0 := hcl 0 (by omega)
  have y1 := hcl 1 (by omega)
  clear hcl
  obtain ⟨x, HX⟩ : ∃ x, Hid (x = frN l) := ⟨_, Lib.hid rfl⟩
  obtain ⟨z0, Z0⟩ : ∃ z : Nat, Hid (z = (l[0]'(by omega)).toNat) := ⟨_, Lib.hid rfl⟩
  obtain ⟨z1, Z1⟩ : ∃ z : Nat, Hid (z = (l[1]'(by omega)).toNat) := ⟨_, Lib.hid rfl⟩
  have hz0 : z0 < 256 := by rw [Z0.out]; exact UInt8.toNat_lt _
  have hz1 : z1 < 256 := by rw [Z1.out]; exact UInt8.toNat_lt _
  rw [← Z0.out] at y0
  rw [← Z1.out] at y1
  have HX2 : Hid (z0 + 256 * z1 = x) := Lib.hid (by
    rw [HX.out, Z0.out, Z1.out]
    exact (frN_two l (by omega)).symm)
  have hx : x < 65536 := by rw [← HX2.out]; omega
  clear Z0 Z1
  rw [Nat.add_zero] at y0
  have q0 : IntKind.i64.wrap (z0 : Int) = z0 := by rw [IntKind.wrap_i64]; omega
  have q1 : IntKind.i64.wrap (z1 : Int) = z1 := by rw [IntKind.wrap_i64]; omega
  have q2 : IntKind.i64.wrap (256 * (z1 : Int)) = 256 * z1 := by rw [IntKind.wrap_i64]; omega
  have q3 : IntKind.i64.wrap ((z0 : Int) + 256 * z1) = x := by have := HX2.out; rw [IntKind.wrap_i64]; omega
  have hrT : Rd w (some ⟨b, o + 2, none⟩) (frT l) := Rd.cut hr b o 2 15 rfl (by omega)
  have HTl : Hid (15 = (frT l).length) := Lib.hid (by simp [frT]; omega)
  have hTm : (frT l).length ≤ maxLen := by rw [← HTl.out]; unfold maxLen; omega
  have hc64 : 128 ≤ c := by omega
  have n2 : ¬ c = 2 := by omega
  have HT : Hid (tagW (frT l) = .agg #[.int .i64 0, .int .i64 0, .int .i64 0, .int .i64 0, .int .i64 0] ∧ tagP (frT l) = 30) := Lib.hid (tagW_none ht)
  clear ht
  have HL : Hid (128 = l.length) := Lib.hid hl.symm
  rw [hl]
  clear hz hl
  go_enter Tryd.func11, Tryd.ntmps11
  go_wp2_with fail
  refine (rroom_any _ _).mono ?_
  rw [show roomI 2 = 88 from rfl]
  rintro e w1 ⟨rfl, rfl⟩
  go_wp2_with fail
  refine (blank_n (some ⟨b, o, none⟩) c l 128 _ (hr.alloc _) hlm HL.out).mono ?_
  rw [HZ.out]
  rintro e w1 ⟨rfl, rfl⟩
  go_wp2_with fail
  go_quiet (fail)
  clear q0 q1 q2 q3
  go_wp2_with fail
  refine (rparse_n (some ⟨b, o + 2, none⟩) (c - 2) (frT l) 15 _ ((hrT.alloc _).below (below_dr _ _)) hTm HTl.out).mono ?_
  rw [HT.out.1, HT.out.2]
  rintro e w2 ⟨rfl, hb2⟩
  have hbb2 : Below w.heap.size w w2 := bt (bt (bal0 w (.cells #[.int .i64 0, .int .i64 0, .int .i64 0, .int .i64 0, .int .i64 0] 25)) (below_dr _ _)) hb2
  have B2 := ((Blk.new w 25 #[.int .i64 0, .int .i64 0, .int .i64 0, .int .i64 0, .int .i64 0]).bel (below_dr _ _)).bel hb2
  clear hb2
  have B3 := B2.alloc (.cells #[.int .i64 0, .int .i64 0, .int .i64 0, .int .i64 0, .int .i64 0] 25)
  have f0 := B3.frozen
  have c0 := B3.c 0 (.int .i64 0) rfl
  have c1 := B3.c 1 (.int .i64 0) rfl
  have c2 := B3.c 2 (.int .i64 0) rfl
  have c3 := B3.c 3 (.int .i64 0) rfl
  have c4 := B3.c 4 (.int .i64 0) rfl
  go_wp2_with fail
  refine bodyPost_ret (v := .tuple #[.int .u8 2, .agg #[.int .i64 0, .int .i64 0, .int .i64 0, .int .i64 0, .int .i64 0], .slice none 0 0]) (by simp [results, Tryd.results11, go_sem, c0, c1, c2, c3, c4]) rfl ⟨none, 0, rfl, Mine.nil _ _ _, Nat.le_refl _, Nat.zero_le _, ?_⟩
  exact ((((((hbb2.alloc hbb2.size _).setCell (Nat.le_refl _) _).setCell (Nat.le_refl _) _).setCell (Nat.le_refl _) _).setCell (Nat.le_refl _) _).setCell (Nat.le_refl _) _)
set_option maxHeartbeats 4000000 in
theorem ropen_room_2 (A : Option Addr) (c : Nat) (l : List UInt8) (w : World) (hr : Rd w A l) (hc : l.length ≤ c) (hm : c ≤ maxLen) (hl : l.length = 128) (hz : zeroB l = false) (ht : tagB (frT l) = true) (hn : 88 < frN l) : Calls Tryd.prog 11 #[.slice A l.length c] w (RetF w 2 (.agg #[.int .i64 0, .int .i64 0, .int .i64 0, .int .i64 0, .int .i64 0]) []) := by
  have HZ := Lib.hid hz
  have hcm := hm
  unfold maxLen at hcm
  have hlm : l.length ≤ maxLen := Nat.le_trans hc hm
  obtain ⟨b, o, rfl, hcl⟩ := (hr.alloc (.cells #[.int .i64 0, .int .i64 0, .int .i64 0, .int .i64 0, .int .i64 0] 25)).at_ (k := 0) (by omega)
  have y0 := hcl 0 (by omega)
  have y1 := hcl 1 (by omega)
  clear hcl
  obtain ⟨x, HX⟩ : ∃ x, Hid (x = frN l) := ⟨_, Lib.hid rfl⟩
  obtain ⟨z0, Z0⟩ : ∃ z : Nat, Hid (z = (l[0]'(by omega)).toNat) := ⟨_, Lib.hid rfl⟩
  obtain ⟨z1, Z1⟩ : ∃ z : Nat, Hid (z = (l[1]'(by omega)).toNat) := ⟨_, Lib.hid rfl⟩
  have hz0 : z0 < 256 := by rw [Z0.out]; exact UInt8.toNat_lt _
  have hz1 : z1 < 256 := by rw [Z1.out]; exact UInt8.toNat_lt _
  rw [← Z0.out] at y0
  rw [← Z1.out] at y1
  have HX2 : Hid (z0 + 256 * z1 = x) := Lib.hid (by
    rw [HX.out, Z0.out, Z1.out]
    exact (frN_two l (by omega)).symm)
  have hx : x < 65536 := by rw [← HX2.out]; omega
  clear Z0 Z1
  rw [Nat.add_zero] at y0
  have q0 : IntKind.i64.wrap (z0 : Int) = z0 := by rw [IntKind.wrap_i64]; omega
  have q1 : IntKind.i64.wrap (z1 : Int) = z1 := by rw [IntKind.wrap_i64]; omega
  have q2 : IntKind.i64.wrap (256 * (z1 : Int)) = 256 * z1 := by rw [IntKind.wrap_i64]; omega
  have q3 : IntKind.i64.wrap ((z0 : Int) + 256 * z1) = x := by have := HX2.out; rw [IntKind.wrap_i64]; omega
  have hrT : Rd w (some ⟨b, o + 2, none⟩) (frT l) := Rd.cut hr b o 2 15 rfl (by omega)
  have HTl : Hid (15 = (frT l).length) := Lib.hid (by simp [frT]; omega)
  have hTm : (frT l).length ≤ maxLen := by rw [← HTl.out]; unfold maxLen; omega
  have hc64 : 128 ≤ c := by omega
  have n2 : ¬ c = 2 := by omega
  obtain ⟨f0, F0⟩ : ∃ f, Hid (f = getN (frT l) 0 1) := ⟨_, Lib.hid rfl⟩
  obtain ⟨f1, F1⟩ : ∃ f, Hid (f = getN (frT l) 1 1) := ⟨_, Lib.hid rfl⟩
  obtain ⟨f2, F2⟩ : ∃ f, Hid (f = getN (frT l) 2 1) := ⟨_, Lib.hid rfl⟩
  obtain ⟨f3, F3⟩ : ∃ f, Hid (f = getN (frT l) 3 6) := ⟨_, Lib.hid rfl⟩
  obtain ⟨f4, F4⟩ : ∃ f, Hid (f = getN (frT l) 9 6) := ⟨_, Lib.hid rfl⟩
  have HT : Hid (tagW (frT l) = .agg #[.int .i64 f0, .int .i64 f1, .int .i64 f2, .int .i64 f3, .int .i64 f4] ∧ tagP (frT l) = 0) := Lib.hid (by
    have := tagW_some ht
    rw [← F0.out, ← F1.out, ← F2.out, ← F3.out, ← F4.out] at this
    exact this)
  have hxr : (88 : Int) < x := by rw [HX.out]; omega
  clear ht hn
  have HL : Hid (128 = l.length) := Lib.hid hl.symm
  rw [hl]
  clear hz hl
  go_enter Tryd.func11, Tryd.ntmps11
  go_wp2_with fail
  refine (rroom_any _ _).mono ?_
  rw [show roomI 2 = 88 from rfl]
  rintro e w1 ⟨rfl, rfl⟩
  go_wp2_with fail
  refine (blank_n (some ⟨b, o, none⟩) c l 128 _ (hr.alloc _) hlm HL.out).mono ?_
  rw [HZ.out]
  rintro e w1 ⟨rfl, rfl⟩
  go_wp2_with fail
  go_quiet (fail)
  clear q0 q1 q2 q3
  go_wp2_with fail
  refine (rparse_n (some ⟨b, o + 2, none⟩) (c - 2) (frT l) 15 _ ((hrT.alloc _).below (below_dr _ _)) hTm HTl.out).mono ?_
  rw [HT.out.1, HT.out.2]
  rintro e w2 ⟨rfl, hb2⟩
  have hbb2 : Below w.heap.size w w2 := bt (bt (bal0 w (.cells #[.int .i64 0, .int .i64 0, .int .i64 0, .int .i64 0, .int .i64 0] 25)) (below_dr _ _)) hb2
  have B2 := ((Blk.new w 25 #[.int .i64 0, .int .i64 0, .int .i64 0, .int .i64 0, .int .i64 0]).bel (below_dr _ _)).bel hb2
  clear hb2
  have B3 := B2.alloc (.cells #[.int .i64 f0, .int .i64 f1, .int .i64 f2, .int .i64 f3, .int .i64 f4] 25)
  have f0 := B3.frozen
  have c0 := B3.c 0 (.int .i64 0) rfl
  have c1 := B3.c 1 (.int .i64 0) rfl
  have c2 := B3.c 2 (.int .i64 0) rfl
  have c3 := B3.c 3 (.int .i64 0) rfl
  have c4 := B3.c 4 (.int .i64 0) rfl
  go_wp2_with fail
  refine (rroom_any _ _).mono ?_
  rw [show roomI 2 = 88 from rfl]
  rintro e w1 ⟨rfl, rfl⟩
  go_wp2_with fail
  refine bodyPost_ret (v := .tuple #[.int .u8 2, .agg #[.int .i64 0, .int .i64 0, .int .i64 0, .int .i64 0, .int .i64 0], .slice none 0 0]) (by simp [results, Tryd.results11, go_sem, c0, c1, c2, c3, c4]) rfl ⟨none, 0, rfl, Mine.nil _ _ _, Nat.le_refl _, Nat.zero_le _, ?_⟩
  exact ((((((hbb2.alloc hbb2.size _).setCell (Nat.le_refl _) _).setCell (Nat.le_refl _) _).setCell (Nat.le_refl _) _).setCell (Nat.le_refl _) _).setCell (Nat.le_refl _) _)
set_option maxHeartbeats 4000000 in
theorem ropen_bad_2 (A : Option Addr) (c : Nat) (l : List UInt8) (w : World) (hr : Rd w A l) (hc : l.length ≤ c) (hm : c ≤ maxLen) (hl : l.length = 128) (hz : zeroB l = false) (ht : tagB (frT l) = true) (hn : frN l ≤ 88) (hg : frG l = false) : Calls Tryd.prog 11 #[.slice A l.length c] w (RetF w 2 (.agg #[.int .i64 0, .int .i64 0, .int .i64 0, .int .i64 0, .int .i64 0]) []) := by
  have hseal := seal_own (l := l) (by unfold okLen; rw [hl]; rfl) ht (by unfold frRoom; rw [hl]; exact hn) hz
  rw [hg, hl] at hseal
  have HZ := Lib.hid hz
  have hcm := hm
  unfold maxLen at hcm
  have hlm : l.length ≤ maxLen := Nat.le_trans hc hm
  obtain ⟨b, o, rfl, hcl⟩ := (hr.alloc (.cells #[.int .i64 0, .int .i64 0, .int .i64 0, .int .i64 0, .int .i64 0] 25)).at_ (k := 0) (by omega)
  have y0 := hcl 0 (by omega)
  have y1 := hcl 1 (by omega)
  clear hcl
  obtain ⟨x, HX⟩ : ∃ x, Hid (x = frN l) := ⟨_, Lib.hid rfl⟩
  obtain ⟨z0, Z0⟩ : ∃ z : Nat, Hid (z = (l[0]'(by omega)).toNat) := ⟨_, Lib.hid rfl⟩
  obtain ⟨z1, Z1⟩ : ∃ z : Nat, Hid (z = (l[1]'(by omega)).toNat) := ⟨_, Lib.hid rfl⟩
  have hz0 : z0 < 256 := by rw [Z0.out]; exact UInt8.toNat_lt _
  have hz1 : z1 < 256 := by rw [Z1.out]; exact UInt8.toNat_lt _
  rw [← Z0.out] at y0
  rw [← Z1.out] at y1
  have HX2 : Hid (z0 + 256 * z1 = x) := Lib.hid (by
    rw [HX.out, Z0.out, Z1.out]
    exact (frN_two l (by omega)).symm)
  have hx : x < 65536 := by rw [← HX2.out]; omega
  clear Z0 Z1
  rw [Nat.add_zero] at y0
  have q0 : IntKind.i64.wrap (z0 : Int) = z0 := by rw [IntKind.wrap_i64]; omega
  have q1 : IntKind.i64.wrap (z1 : Int) = z1 := by rw [IntKind.wrap_i64]; omega
  have q2 : IntKind.i64.wrap (256 * (z1 : Int)) = 256 * z1 := by rw [IntKind.wrap_i64]; omega
  have q3 : IntKind.i64.wrap ((z0 : Int) + 256 * z1) = x := by have := HX2.out; rw [IntKind.wrap_i64]; omega
  have hrT : Rd w (some ⟨b, o + 2, none⟩) (frT l) := Rd.cut hr b o 2 15 rfl (by omega)
  have HTl : Hid (15 = (frT l).length) := Lib.hid (by simp [frT]; omega)
  have hTm : (frT l).length ≤ maxLen := by rw [← HTl.out]; unfold maxLen; omega
  have hc64 : 128 ≤ c := by omega
  have n2 : ¬ c = 2 := by omega
  obtain ⟨f0, F0⟩ : ∃ f, Hid (f = getN (frT l) 0 1) := ⟨_, Lib.hid rfl⟩
  obtain ⟨f1, F1⟩ : ∃ f, Hid (f = getN (frT l) 1 1) := ⟨_, Lib.hid rfl⟩
  obtain ⟨f2, F2⟩ : ∃ f, Hid (f = getN (frT l) 2 1) := ⟨_, Lib.hid rfl⟩
  obtain ⟨f3, F3⟩ : ∃ f, Hid (f = getN (frT l) 3 6) := ⟨_, Lib.hid rfl⟩
  obtain ⟨f4, F4⟩ : ∃ f, Hid (f = getN (frT l) 9 6) := ⟨_, Lib.hid rfl⟩
  have HT : Hid (tagW (frT l) = .agg #[.int .i64 f0, .int .i64 f1, .int .i64 f2, .int .i64 f3, .int .i64 f4] ∧ tagP (frT l) = 0) := Lib.hid (by
    have := tagW_some ht
    rw [← F0.out, ← F1.out, ← F2.out, ← F3.out, ← F4.out] at this
    exact this)
  have hxr : decide ((88 : Int) < x) = false := decide_eq_false (by rw [HX.out]; omega)
  have hxr2 : x ≤ 88 := by rw [HX.out]; exact hn
  have n17 : ¬ c = 17 := by omega
  obtain ⟨D, HD⟩ : ∃ D, Hid (D = (l.drop 17).take (frN l)) := ⟨_, Lib.hid rfl⟩
  have hrD : Rd w (some ⟨b, o + 17, none⟩) D := by rw [HD.out]; exact Rd.cut hr b o 17 (frN l) rfl (by omega)
  have HDl : Hid (x = D.length) := Lib.hid (by rw [HD.out, HX.out]; simp; omega)
  have hDm : D.length ≤ 140737488355328 := by rw [← HDl.out]; omega
  rw [← HD.out, ← F0.out, ← F1.out, ← F2.out, ← F3.out, ← F4.out] at hseal
  obtain ⟨S, HS⟩ : ∃ S, Hid (S = sealL f0 f1 f2 f3 f4 D 2) := ⟨_, Lib.hid rfl⟩
  have hmay : mayB f0 f1 f2 f3 f4 = true := by rw [F0.out, F1.out, F2.out, F3.out, F4.out]; exact (tag_print_parse ht).1
  have hSE : sealE (mayB f0 f1 f2 f3 f4) D 2 = 0 := by
    unfold sealE
    rw [hmay, show roomI 2 = 88 from rfl, if_neg (by simp), if_neg (by rw [← HDl.out]; omega)]
  have HSE := Lib.hid hSE
  have hSL : S = frmL 128 (tagL f0 f1 f2 f3 f4) D := by
    rw [HS.out]
    unfold sealL
    rw [hSE, if_pos rfl]
    rfl
  have HSm : S.length ≤ maxLen := by rw [hSL, frmL_length _ _ _ (by rw [tagL_length, hmay]; rfl) (by rw [← HDl.out]; omega) (by rw [← HDl.out]; omega)]; decide
  have HEQ : Hid (eqB S l = false) := Lib.hid (by
    unfold eqB
    rw [hSL]
    exact decide_eq_false (fun e => by have := hseal.1 e; cases this))

  clear ht hn hg hseal hmay hSE hSL
  have HL : Hid (128 = l.length) := Lib.hid hl.symm
  rw [hl]
  clear hz hl
  go_enter Tryd.func11, Tryd.ntmps11
  go_wp2_with fail
  refine (rroom_any _ _).mono ?_
  rw [show roomI 2 = 88 from rfl]
  rintro e w1 ⟨rfl, rfl⟩
  go_wp2_with fail
  refine (blank_n (some ⟨b, o, none⟩) c l 128 _ (hr.alloc _) hlm HL.out).mono ?_
  rw [HZ.out]
  rintro e w1 ⟨rfl, rfl⟩
  go_wp2_with fail
  go_quiet (fail)
  clear q0 q1 q2 q3
  go_wp2_with fail
  refine (rparse_n (some ⟨b, o + 2, none⟩) (c - 2) (frT l) 15 _ ((hrT.alloc _).below (below_dr _ _)) hTm HTl.out).mono ?_
  rw [HT.out.1, HT.out.2]
  rintro e w2 ⟨rfl, hb2⟩
  have hbb2 : Below w.heap.size w w2 := bt (bt (bal0 w (.cells #[.int .i64 0, .int .i64 0, .int .i64 0, .int .i64 0, .int .i64 0] 25)) (below_dr _ _)) hb2
  have B2 := ((Blk.new w 25 #[.int .i64 0, .int .i64 0, .int .i64 0, .int .i64 0, .int .i64 0]).bel (below_dr _ _)).bel hb2
  clear hb2
  have hbb3 : Below w.heap.size w (w2.alloc (.cells #[.int .i64 f0, .int .i64 f1, .int .i64 f2, .int .i64 f3, .int .i64 f4] 25)) := hbb2.alloc hbb2.size _
  have B3 := B2.alloc (.cells #[.int .i64 f0, .int .i64 f1, .int .i64 f2, .int .i64 f3, .int .i64 f4] 25)
  have C3 := Blk.new w2 25 #[.int .i64 f0, .int .i64 f1, .int .i64 f2, .int .i64 f3, .int .i64 f4]
  have hlt2 : w.heap.size < w2.heap.size := B2.lt
  go_wp2_with fail
  refine (rroom_any _ _).mono ?_
  rw [show roomI 2 = 88 from rfl]
  rintro e w1 ⟨rfl, rfl⟩
  go_wp2_with fail
  refine (copy_n (some ⟨b, o + 17, none⟩) _ D _ _ (hrD.below hbb3) hDm (by rw [← HDl.out]; try omega)).mono ?_
  rintro e w4 ⟨A4, c4, rfl, hown4, hb4⟩
  have hbb4 := bt hbb3 hb4
  have B4 := B3.bel hb4
  have C4 := C3.bel hb4
  clear hb4 B3 C3
  have d0 := C4.c 0 (.int .i64 f0) rfl
  have d1 := C4.c 1 (.int .i64 f1) rfl
  have d2 := C4.c 2 (.int .i64 f2) rfl
  have d3 := C4.c 3 (.int .i64 f3) rfl
  have d4 := C4.c 4 (.int .i64 f4) rfl
  go_wp2_with fail
  refine (rseal_n f0 f1 f2 f3 f4 A4 c4 D _ 2 _ hown4.rd (by rfl)).mono ?_
  rw [← HS.out, HSE.out]
  rintro e w5 ⟨A5, c5, rfl, hown5, hb5⟩
  have hbb5 := bt hbb4 hb5
  have B5 := B4.bel hb5
  have C5 := C4.bel hb5
  have hown4' := hown4.below hb5
  clear d0 d1 d2 d3 d4
  clear hb5 B4 C4
  go_wp2_with fail
  refine (same_n A5 (some ⟨b, o, none⟩) c5 c S l _ 128 _ hown5.rd (hr.below hbb5) HSm hlm rfl HL.out).mono ?_
  rw [HEQ.out]
  rintro e w6 ⟨rfl, hb6⟩
  have hbb6 := bt hbb5 hb6
  have B6 := B5.bel hb6
  have C6 := C5.bel hb6
  have hown6 := hown4'.below hb6
  have fz := B6.frozen
  have c0 := B6.c 0 (.int .i64 0) rfl
  have c1 := B6.c 1 (.int .i64 0) rfl
  have c2 := B6.c 2 (.int .i64 0) rfl
  have c3 := B6.c 3 (.int .i64 0) rfl
  have c4_ := B6.c 4 (.int .i64 0) rfl
  go_wp2_with fail
  refine bodyPost_ret (v := .tuple #[.int .u8 2, .agg #[.int .i64 0, .int .i64 0, .int .i64 0, .int .i64 0, .int .i64 0], .slice none 0 0]) (by simp [results, Tryd.results11, go_sem, c0, c1, c2, c3, c4_]) rfl ⟨none, 0, rfl, Mine.nil _ _ _, Nat.le_refl _, Nat.zero_le _, ?_⟩
  exact ((((((hbb6).setCell (Nat.le_refl _) _).setCell (Nat.le_refl _) _).setCell (Nat.le_refl _) _).setCell (Nat.le_refl _) _).setCell (Nat.le_refl _) _)
set_option maxHeartbeats 4000000 in
theorem ropen_good_2 (A : Option Addr) (c : Nat) (l : List UInt8) (w : World) (hr : Rd w A l) (hc : l.length ≤ c) (hm : c ≤ maxLen) (hl : l.length = 128) (hz : zeroB l = false) (ht : tagB (frT l) = true) (hn : frN l ≤ 88) (hg : frG l = true) : Calls Tryd.prog 11 #[.slice A l.length c] w (RetF w 1 (.agg #[.int .i64 (getN (frT l) 0 1), .int .i64 (getN (frT l) 1 1), .int .i64 (getN (frT l) 2 1), .int .i64 (getN (frT l) 3 6), .int .i64 (getN (frT l) 9 6)]) ((l.drop 17).take (frN l))) := by
  have hseal := seal_own (l := l) (by unfold okLen; rw [hl]; rfl) ht (by unfold frRoom; rw [hl]; exact hn) hz
  rw [hg, hl] at hseal
  have HZ := Lib.hid hz
  have hcm := hm
  unfold maxLen at hcm
  have hlm : l.length ≤ maxLen := Nat.le_trans hc hm
  obtain ⟨b, o, rfl, hcl⟩ := (hr.alloc (.cells #[.int .i64 0, .int .i64 0, .int .i64 0, .int .i64 0, .int .i64 0] 25)).at_ (k := 0) (by omega)
  have y0 := hcl 0 (by omega)
  have y1 := hcl 1 (by omega)
  clear hcl
  obtain ⟨x, HX⟩ : ∃ x, Hid (x = frN l) := ⟨_, Lib.hid rfl⟩
  obtain ⟨z0, Z0⟩ : ∃ z : Nat, Hid (z = (l[0]'(by omega)).toNat) := ⟨_, Lib.hid rfl⟩
  obtain ⟨z1, Z1⟩ : ∃ z : Nat, Hid (z = (l[1]'(by omega)).toNat) := ⟨_, Lib.hid rfl⟩
  have hz0 : z0 < 256 := by rw [Z0.out]; exact UInt8.toNat_lt _
  have hz1 : z1 < 256 := by rw [Z1.out]; exact UInt8.toNat_lt _
  rw [← Z0.out] at y0
  rw [← Z1.out] at y1
  have HX2 : Hid (z0 + 256 * z1 = x) := Lib.hid (by
    rw [HX.out, Z0.out, Z1.out]
    exact (frN_two l (by omega)).symm)
  have hx : x < 65536 := by rw [← HX2.out]; omega
  clear Z0 Z1
  rw [Nat.add_zero] at y0
  have q0 : IntKind.i64.wrap (z0 : Int) = z0 := by rw [IntKind.wrap_i64]; omega
  have q1 : IntKind.i64.wrap (z1 : Int) = z1 := by rw [IntKind.wrap_i64]; omega
  have q2 : IntKind.i64.wrap (256 * (z1 : Int)) = 256 * z1 := by rw [IntKind.wrap_i64]; omega
  have q3 : IntKind.i64.wrap ((z0 : Int) + 256 * z1) = x := by have := HX2.out; rw [IntKind.wrap_i64]; omega
  have hrT : Rd w (some ⟨b, o + 2, none⟩) (frT l) := Rd.cut hr b o 2 15 rfl (by omega)
  have HTl : Hid (15 = (frT l).length) := Lib.hid (by simp [frT]; omega)
  have hTm : (frT l).length ≤ maxLen := by rw [← HTl.out]; unfold maxLen; omega
  have hc64 : 128 ≤ c := by omega
  have n2 : ¬ c = 2 := by omega
  obtain ⟨f0, F0⟩ : ∃ f, Hid (f = getN (frT l) 0 1) := ⟨_, Lib.hid rfl⟩
  obtain ⟨f1, F1⟩ : ∃ f, Hid (f = getN (frT l) 1 1) := ⟨_, Lib.hid rfl⟩
  obtain ⟨f2, F2⟩ : ∃ f, Hid (f = getN (frT l) 2 1) := ⟨_, Lib.hid rfl⟩
  obtain ⟨f3, F3⟩ : ∃ f, Hid (f = getN (frT l) 3 6) := ⟨_, Lib.hid rfl⟩
  obtain ⟨f4, F4⟩ : ∃ f, Hid (f = getN (frT l) 9 6) := ⟨_, Lib.hid rfl⟩
  have HT : Hid (tagW (frT l) = .agg #[.int .i64 f0, .int .i64 f1, .int .i64 f2, .int .i64 f3, .int .i64 f4] ∧ tagP (frT l) = 0) := Lib.hid (by
    have := tagW_some ht
    rw [← F0.out, ← F1.out, ← F2.out, ← F3.out, ← F4.out] at this
    exact this)
  have hxr : decide ((88 : Int) < x) = false := decide_eq_false (by rw [HX.out]; omega)
  have hxr2 : x ≤ 88 := by rw [HX.out]; exact hn
  have n17 : ¬ c = 17 := by omega
  obtain ⟨D, HD⟩ : ∃ D, Hid (D = (l.drop 17).take (frN l)) := ⟨_, Lib.hid rfl⟩
  have hrD : Rd w (some ⟨b, o + 17, none⟩) D := by rw [HD.out]; exact Rd.cut hr b o 17 (frN l) rfl (by omega)
  have HDl : Hid (x = D.length) := Lib.hid (by rw [HD.out, HX.out]; simp; omega)
  have hDm : D.length ≤ 140737488355328 := by rw [← HDl.out]; omega
  rw [← HD.out, ← F0.out, ← F1.out, ← F2.out, ← F3.out, ← F4.out] at hseal
  obtain ⟨S, HS⟩ : ∃ S, Hid (S = sealL f0 f1 f2 f3 f4 D 2) := ⟨_, Lib.hid rfl⟩
  have hmay : mayB f0 f1 f2 f3 f4 = true := by rw [F0.out, F1.out, F2.out, F3.out, F4.out]; exact (tag_print_parse ht).1
  have hSE : sealE (mayB f0 f1 f2 f3 f4) D 2 = 0 := by
    unfold sealE
    rw [hmay, show roomI 2 = 88 from rfl, if_neg (by simp), if_neg (by rw [← HDl.out]; omega)]
  have HSE := Lib.hid hSE
  have hSL : S = frmL 128 (tagL f0 f1 f2 f3 f4) D := by
    rw [HS.out]
    unfold sealL
    rw [hSE, if_pos rfl]
    rfl
  have HSm : S.length ≤ maxLen := by rw [hSL, frmL_length _ _ _ (by rw [tagL_length, hmay]; rfl) (by rw [← HDl.out]; omega) (by rw [← HDl.out]; omega)]; decide
  have HEQ : Hid (eqB S l = true) := Lib.hid (by
    unfold eqB
    rw [hSL]
    exact decide_eq_true (hseal.2 rfl))
  rw [← HD.out, ← F0.out, ← F1.out, ← F2.out, ← F3.out, ← F4.out]
  clear ht hn hg hseal hmay hSE hSL
  have HL : Hid (128 = l.length) := Lib.hid hl.symm
  rw [hl]
  clear hz hl
  go_enter Tryd.func11, Tryd.ntmps11
  go_wp2_with fail
  refine (rroom_any _ _).mono ?_
  rw [show roomI 2 = 88 from rfl]
  rintro e w1 ⟨rfl, rfl⟩
  go_wp2_with fail
  refine (blank_n (some ⟨b, o, none⟩) c l 128 _ (hr.alloc _) hlm HL.out).mono ?_
  rw [HZ.out]
  rintro e w1 ⟨rfl, rfl⟩
  go_wp2_with fail
  go_quiet (fail)
  clear q0 q1 q2 q3
  go_wp2_with fail
  refine (rparse_n (some ⟨b, o + 2, none⟩) (c - 2) (frT l) 15 _ ((hrT.alloc _).below (below_dr _ _)) hTm HTl.out).mono ?_
  rw [HT.out.1, HT.out.2]
  rintro e w2 ⟨rfl, hb2⟩
  have hbb2 : Below w.heap.size w w2 := bt (bt (bal0 w (.cells #[.int .i64 0, .int .i64 0, .int .i64 0, .int .i64 0, .int .i64 0] 25)) (below_dr _ _)) hb2
  have B2 := ((Blk.new w 25 #[.int .i64 0, .int .i64 0, .int .i64 0, .int .i64 0, .int .i64 0]).bel (below_dr _ _)).bel hb2
  clear hb2
  have hbb3 : Below w.heap.size w (w2.alloc (.cells #[.int .i64 f0, .int .i64 f1, .int .i64 f2, .int .i64 f3, .int .i64 f4] 25)) := hbb2.alloc hbb2.size _
  have B3 := B2.alloc (.cells #[.int .i64 f0, .int .i64 f1, .int .i64 f2, .int .i64 f3, .int .i64 f4] 25)
  have C3 := Blk.new w2 25 #[.int .i64 f0, .int .i64 f1, .int .i64 f2, .int .i64 f3, .int .i64 f4]
  have hlt2 : w.heap.size < w2.heap.size := B2.lt
  go_wp2_with fail
  refine (rroom_any _ _).mono ?_
  rw [show roomI 2 = 88 from rfl]
  rintro e w1 ⟨rfl, rfl⟩
  go_wp2_with fail
  refine (copy_n (some ⟨b, o + 17, none⟩) _ D _ _ (hrD.below hbb3) hDm (by rw [← HDl.out]; try omega)).mono ?_
  rintro e w4 ⟨A4, c4, rfl, hown4, hb4⟩
  have hbb4 := bt hbb3 hb4
  have B4 := B3.bel hb4
  have C4 := C3.bel hb4
  clear hb4 B3 C3
  have d0 := C4.c 0 (.int .i64 f0) rfl
  have d1 := C4.c 1 (.int .i64 f1) rfl
  have d2 := C4.c 2 (.int .i64 f2) rfl
  have d3 := C4.c 3 (.int .i64 f3) rfl
  have d4 := C4.c 4 (.int .i64 f4) rfl
  go_wp2_with fail
  refine (rseal_n f0 f1 f2 f3 f4 A4 c4 D _ 2 _ hown4.rd (by rfl)).mono ?_
  rw [← HS.out, HSE.out]
  rintro e w5 ⟨A5, c5, rfl, hown5, hb5⟩
  have hbb5 := bt hbb4 hb5
  have B5 := B4.bel hb5
  have C5 := C4.bel hb5
  have hown4' := hown4.below hb5
  clear d0 d1 d2 d3 d4
  clear hb5 B4 C4
  go_wp2_with fail
  refine (same_n A5 (some ⟨b, o, none⟩) c5 c S l _ 128 _ hown5.rd (hr.below hbb5) HSm hlm rfl HL.out).mono ?_
  rw [HEQ.out]
  rintro e w6 ⟨rfl, hb6⟩
  have hbb6 := bt hbb5 hb6
  have B6 := B5.bel hb6
  have C6 := C5.bel hb6
  have hown6 := hown4'.below hb6
  have fz := B6.frozen
  have c0 := B6.c 0 (.int .i64 0) rfl
  have c1 := B6.c 1 (.int .i64 0) rfl
  have c2 := B6.c 2 (.int .i64 0) rfl
  have c3 := B6.c 3 (.int .i64 0) rfl
  have c4_ := B6.c 4 (.int .i64 0) rfl
  have d0 := C6.c 0 (.int .i64 f0) rfl
  have d1 := C6.c 1 (.int .i64 f1) rfl
  have d2 := C6.c 2 (.int .i64 f2) rfl
  have d3 := C6.c 3 (.int .i64 f3) rfl
  have d4 := C6.c 4 (.int .i64 f4) rfl
  have hcap := hown6.caps
  have hsz : w.heap.size < (w2.alloc (.cells #[.int .i64 f0, .int .i64 f1, .int .i64 f2, .int .i64 f3, .int .i64 f4] 25)).heap.size := by simp; omega
  have hszm := Nat.le_of_lt hsz
  have hne0 : w2.heap.size ≠ w.heap.size := by omega
  have hne1 : w.heap.size ≠ w2.heap.size := by omega
  rw [← HDl.out] at hcap
  go_wp2_with fail
  go_region_held3 (fun w' => w'.cell? ⟨w2.heap.size, 0, none⟩ = some (.int .i64 f0) ∧ w'.cell? ⟨w2.heap.size, 1, none⟩ = some (.int .i64 f1) ∧ w'.cell? ⟨w2.heap.size, 2, none⟩ = some (.int .i64 f2) ∧ w'.cell? ⟨w2.heap.size, 3, none⟩ = some (.int .i64 f3) ∧ w'.cell? ⟨w2.heap.size, 4, none⟩ = some (.int .i64 f4)) (go_keep) (first | fail)
  all_goals
    go_wp2_with fail
    refine bodyPost_ret (v := .tuple #[.int .u8 1, .agg #[.int .i64 f0, .int .i64 f1, .int .i64 f2, .int .i64 f3, .int .i64 f4], .slice A4 D.length c4]) (by simp [results, Tryd.results11, go_sem, c0, c1, c2, c3, c4_]) rfl ⟨A4, c4, rfl, ?_, hown6.caps.1, hown6.caps.2, ?_⟩
    · exact (((((((hown6.put hsz _).put hsz _).put hsz _).put hsz _).put hsz _).drew).mono hszm).mine
    · exact (((((((hbb6).setCell (Nat.le_refl _) _).setCell (Nat.le_refl _) _).setCell (Nat.le_refl _) _).setCell (Nat.le_refl _) _).setCell (Nat.le_refl _) _)).drew

theorem ropen_any (A : Option Addr) (c : Nat) (l : List UInt8) (w : World) (hr : Rd w A l) (hc : l.length ≤ c) (hm : c ≤ maxLen) : Calls Tryd.prog 11 #[.slice A l.length c] w (RetF w (frS l) (frV l) (frB l)) := by
  cases h0 : okLen l
  · have hn := okLen_not h0
    have hg : frG l = false := by simp [frG, h0]
    rw [(frV_none hg).1, (frV_none hg).2, show frS l = 2 by simp [frS, h0]]
    exact ropen_len A c l w (by omega) hn.1 hn.2
  cases hz : zeroB l
  case true =>
    have hg : frG l = false := by simp [frG, hz]
    rw [(frV_none hg).1, (frV_none hg).2, show frS l = 0 by simp [frS, h0, hz]]
    rcases okLen_cases h0 with hl | hl
    · exact ropen_blank_1 A c l w hr hc hm hl hz
    · exact ropen_blank_2 A c l w hr hc hm hl hz
  cases hg : frG l
  case true =>
    rw [(frV_some hg).1, (frV_some hg).2, show frS l = 1 by simp [frS, h0, hz, hg]]
    obtain ⟨_, _, p1, p2, _, _⟩ := frG_parts hg
    rcases okLen_cases h0 with hl | hl
    · simp [frRoom, hl] at p2
      exact ropen_good_1 A c l w hr hc hm hl hz p1 p2 hg
    · simp [frRoom, hl] at p2
      exact ropen_good_2 A c l w hr hc hm hl hz p1 p2 hg
  rw [(frV_none hg).1, (frV_none hg).2, show frS l = 2 by simp [frS, h0, hz, hg]]
  cases h1 : tagB (frT l)
  · rcases okLen_cases h0 with hl | hl
    · exact ropen_tag_1 A c l w hr hc hm hl hz h1
    · exact ropen_tag_2 A c l w hr hc hm hl hz h1
  rcases okLen_cases h0 with hl | hl
  · by_cases h2 : frN l ≤ 43
    case neg => exact ropen_room_1 A c l w hr hc hm hl hz h1 (by omega)
    exact ropen_bad_1 A c l w hr hc hm hl hz h1 h2 hg
  · by_cases h2 : frN l ≤ 88
    case neg => exact ropen_room_2 A c l w hr hc hm hl hz h1 (by omega)
    exact ropen_bad_2 A c l w hr hc hm hl hz h1 h2 hg
end Go.Proofs.YtahfippapknolaaDoor
