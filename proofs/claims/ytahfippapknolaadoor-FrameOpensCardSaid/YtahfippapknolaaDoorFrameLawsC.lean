/-
  THE WALK OF THE LAW FrameElsewhere. (Printed by genframeg.py.)
-/
import Derived.Test.YtahfippapknolaaDoorFrameLawsB
namespace Go.Proofs.YtahfippapknolaaDoor
open Go.RowKit
set_option linter.unusedVariables false

theorem mnV_form (l : List UInt8) (a b c : Int) : ∃ v0 v1 v2 v3 v4 : Int, Hid (mnV l a b c = .agg #[.int .i64 v0, .int .i64 v1, .int .i64 v2, .int .i64 v3, .int .i64 v4]) := by
  unfold mnV
  split
  · exact ⟨_, _, _, _, _, Lib.hid rfl⟩
  · exact ⟨_, _, _, _, _, Lib.hid rfl⟩
theorem mine_n (A : Option Addr) (c n : Nat) (l : List UInt8) (x y z : Int) (w : World) (hr : Rd w A l) (hc : l.length ≤ c) (hm : c ≤ maxLen) (hn : n = l.length) (S v0 v1 v2 v3 v4 : Int) (D : List UInt8)
    (HS : Hid (mnS l x y z = S)) (HV : Hid (mnV l x y z = .agg #[.int .i64 v0, .int .i64 v1, .int .i64 v2, .int .i64 v3, .int .i64 v4])) (HD : Hid (mnB l x y z = D)) :
    Calls Tryd.prog 13 #[.slice A n c, .int .i64 x, .int .i64 y, .int .i64 z] w (RetF w S (.agg #[.int .i64 v0, .int .i64 v1, .int .i64 v2, .int .i64 v3, .int .i64 v4]) D) := by
  subst hn
  have := mine_any A c l x y z w hr hc hm
  rwa [HS.out, HV.out, HD.out] at this
theorem rmine_n (A : Option Addr) (c n : Nat) (l : List UInt8) (x y z : Int) (w : World) (hr : Rd w A l) (hc : l.length ≤ c) (hm : c ≤ maxLen) (hn : n = l.length) (S v0 v1 v2 v3 v4 : Int) (D : List UInt8)
    (HS : Hid (mnS l x y z = S)) (HV : Hid (mnV l x y z = .agg #[.int .i64 v0, .int .i64 v1, .int .i64 v2, .int .i64 v3, .int .i64 v4])) (HD : Hid (mnB l x y z = D)) :
    Calls Tryd.prog 14 #[.slice A n c, .int .i64 x, .int .i64 y, .int .i64 z] w (RetF w S (.agg #[.int .i64 v0, .int .i64 v1, .int .i64 v2, .int .i64 v3, .int .i64 v4]) D) := by
  subst hn
  have := rmine_any A c l x y z w hr hc hm
  rwa [HS.out, HV.out, HD.out] at this
theorem mine_zero {l : List UInt8} (h : frS l = 0) (x y z : Int) : mnS l x y z = 0 := by
  have e : mnK l x y z = false := by simp [mnK, h]
  simp [mnS, e, h]
theorem blank_mine (x y z : Int) : mnS (List.replicate 128 0) x y z = 0 := mine_zero (by decide +kernel) x y z
/-- a sealed frame, in Open's words -/
theorem frm_said {rp rg pl ix ic : Int} (hm : mayB rp rg pl ix ic = true) {l : List UInt8} {n : Nat} (hn : (n = 64 ∧ l.length ≤ 43) ∨ (n = 128 ∧ l.length ≤ 88)) :
    frS (frmL n (tagL rp rg pl ix ic) l) = 1 ∧ frF (frmL n (tagL rp rg pl ix ic) l) 0 1 = rp ∧ frF (frmL n (tagL rp rg pl ix ic) l) 1 1 = rg ∧ frF (frmL n (tagL rp rg pl ix ic) l) 2 1 = pl ∧ frF (frmL n (tagL rp rg pl ix ic) l) 3 6 = ix ∧ frF (frmL n (tagL rp rg pl ix ic) l) 9 6 = ic ∧ frB (frmL n (tagL rp rg pl ix ic) l) = l := by
  obtain ⟨_, hg, hT, hN, hB⟩ := frm_good hm hn
  obtain ⟨h0, h3, _⟩ := frG_parts hg
  obtain ⟨_, t1, t2, t3, t4, t5⟩ := tag_parse_print hm
  refine ⟨by simp [frS, h0, h3, hg], ?_, ?_, ?_, ?_, ?_, ?_⟩
  · unfold frF; rw [hg, if_pos rfl, hT, t1]
  · unfold frF; rw [hg, if_pos rfl, hT, t2]
  · unfold frF; rw [hg, if_pos rfl, hT, t3]
  · unfold frF; rw [hg, if_pos rfl, hT, t4]
  · unfold frF; rw [hg, if_pos rfl, hT, t5]
  · unfold frB; rw [hg, if_pos rfl, hN, hB]

set_option maxRecDepth 100000 in
set_option maxHeartbeats 2000000 in
theorem els_no0 (rp rg pl ix ic : Int) (A : Option Addr) (c : Nat) (l : List UInt8) (x y z : Int) (w : World) (hr : Rd w A l) (hc : l.length ≤ c) (hm : c ≤ maxLen) (h300 : l.length ≤ 300) (hE : sealE (mayB rp rg pl ix ic) l (two1 true) ≠ 0) (hmay : mayB rp rg pl ix ic = false) : Calls Tryd.prog 8 #[.agg #[.int .i64 rp, .int .i64 rg, .int .i64 pl, .int .i64 ix, .int .i64 ic], .slice A l.length c, .int .i64 x, .int .i64 y, .int .i64 z] w (RetV w (.bool true)) := by
  have hmk : ∀ W, (Instr.makeSlice 22 (.int .i64 128) (.int .i64 128)).run Tryd.prog W = .ok (.slice (some ⟨W.heap.size, 0, none⟩) 128 128) (W.alloc (.cells (zcs 128) 5)) := mk_run 128 (by omega)
  have HZS := Lib.hid (blank_mine x y z)
  obtain ⟨z0, z1, z2, z3, z4, HZV⟩ := mnV_form (List.replicate 128 0) x y z
  obtain ⟨DZ, HZD⟩ : ∃ D, Hid (mnB (List.replicate 128 0) x y z = D) := ⟨_, Lib.hid rfl⟩
  have HM := Lib.hid hmay

  clear hmay
  go_enter Tryd.func8, Tryd.ntmps8
  go_wp2_with fail
  refine (awake_any _).mono ?_
  rintro e w1 ⟨rfl, hb1⟩
  have B1 := (Blk.new w 25 #[.int .i64 rp, .int .i64 rg, .int .i64 pl, .int .i64 ix, .int .i64 ic]).bel hb1
  have hbb1 := bac hb1
  go_wp2_with fail
  with_reducible refine (mine_n _ 128 128 (List.replicate 128 0) x y z _ (rd_zero _ _) (by decide) (by decide) rfl 0 z0 z1 z2 z3 z4 DZ HZS HZV HZD).mono ?_
  rintro e w2 ⟨A2, c2, rfl, _, _, _, hb2⟩
  have B2 := (B1.alloc (.cells (zcs 128) 5)).bel hb2
  have B2' := B2.alloc (.cells #[.int .i64 z0, .int .i64 z1, .int .i64 z2, .int .i64 z3, .int .i64 z4] 25)
  have hbb2 := bal (bt hbb1 (bac hb2)) (.cells #[.int .i64 z0, .int .i64 z1, .int .i64 z2, .int .i64 z3, .int .i64 z4] 25)
  clear hb1 hb2 hbb1 B1 B2
  have k0 := B2'.c 0 (.int .i64 rp) rfl
  have k1 := B2'.c 1 (.int .i64 rg) rfl
  have k2 := B2'.c 2 (.int .i64 pl) rfl
  have k3 := B2'.c 3 (.int .i64 ix) rfl
  have k4 := B2'.c 4 (.int .i64 ic) rfl
  go_wp2_with fail
  with_reducible refine (sealed_no rp rg pl ix ic A c l true _ (hr.below hbb2) hE).mono ?_
  rintro e w3 ⟨A3, c3, rfl, hown3, hb3⟩
  have B3 := B2'.bel hb3
  have hbb3 := bt hbb2 hb3
  clear k0 k1 k2 k3 k4
  have k0 := B3.c 0 (.int .i64 rp) rfl
  have k1 := B3.c 1 (.int .i64 rg) rfl
  have k2 := B3.c 2 (.int .i64 pl) rfl
  have k3 := B3.c 3 (.int .i64 ix) rfl
  have k4 := B3.c 4 (.int .i64 ic) rfl
  go_wp2_with fail
  with_reducible refine (may_of _ HM.out).mono ?_
  rintro e w4 ⟨rfl, hb4⟩
  go_wp2_with fail
  go_ret
  exact ⟨rfl, bt hbb3 hb4⟩

set_option maxRecDepth 100000 in
set_option maxHeartbeats 2000000 in
theorem els_no1 (rp rg pl ix ic : Int) (A : Option Addr) (c : Nat) (l : List UInt8) (x y z : Int) (w : World) (hr : Rd w A l) (hc : l.length ≤ c) (hm : c ≤ maxLen) (h300 : l.length ≤ 300) (hE : sealE (mayB rp rg pl ix ic) l (two1 true) ≠ 0) (hmay : mayB rp rg pl ix ic = true) (h88 : 88 < l.length) : Calls Tryd.prog 8 #[.agg #[.int .i64 rp, .int .i64 rg, .int .i64 pl, .int .i64 ix, .int .i64 ic], .slice A l.length c, .int .i64 x, .int .i64 y, .int .i64 z] w (RetV w (.bool true)) := by
  have hmk : ∀ W, (Instr.makeSlice 22 (.int .i64 128) (.int .i64 128)).run Tryd.prog W = .ok (.slice (some ⟨W.heap.size, 0, none⟩) 128 128) (W.alloc (.cells (zcs 128) 5)) := mk_run 128 (by omega)
  have HZS := Lib.hid (blank_mine x y z)
  obtain ⟨z0, z1, z2, z3, z4, HZV⟩ := mnV_form (List.replicate 128 0) x y z
  obtain ⟨DZ, HZD⟩ : ∃ D, Hid (mnB (List.replicate 128 0) x y z = D) := ⟨_, Lib.hid rfl⟩
  have HM := Lib.hid hmay
  have g88 : (88 : Int) < l.length := by omega
  clear hmay
  go_enter Tryd.func8, Tryd.ntmps8
  go_wp2_with fail
  refine (awake_any _).mono ?_
  rintro e w1 ⟨rfl, hb1⟩
  have B1 := (Blk.new w 25 #[.int .i64 rp, .int .i64 rg, .int .i64 pl, .int .i64 ix, .int .i64 ic]).bel hb1
  have hbb1 := bac hb1
  go_wp2_with fail
  with_reducible refine (mine_n _ 128 128 (List.replicate 128 0) x y z _ (rd_zero _ _) (by decide) (by decide) rfl 0 z0 z1 z2 z3 z4 DZ HZS HZV HZD).mono ?_
  rintro e w2 ⟨A2, c2, rfl, _, _, _, hb2⟩
  have B2 := (B1.alloc (.cells (zcs 128) 5)).bel hb2
  have B2' := B2.alloc (.cells #[.int .i64 z0, .int .i64 z1, .int .i64 z2, .int .i64 z3, .int .i64 z4] 25)
  have hbb2 := bal (bt hbb1 (bac hb2)) (.cells #[.int .i64 z0, .int .i64 z1, .int .i64 z2, .int .i64 z3, .int .i64 z4] 25)
  clear hb1 hb2 hbb1 B1 B2
  have k0 := B2'.c 0 (.int .i64 rp) rfl
  have k1 := B2'.c 1 (.int .i64 rg) rfl
  have k2 := B2'.c 2 (.int .i64 pl) rfl
  have k3 := B2'.c 3 (.int .i64 ix) rfl
  have k4 := B2'.c 4 (.int .i64 ic) rfl
  go_wp2_with fail
  with_reducible refine (sealed_no rp rg pl ix ic A c l true _ (hr.below hbb2) hE).mono ?_
  rintro e w3 ⟨A3, c3, rfl, hown3, hb3⟩
  have B3 := B2'.bel hb3
  have hbb3 := bt hbb2 hb3
  clear k0 k1 k2 k3 k4
  have k0 := B3.c 0 (.int .i64 rp) rfl
  have k1 := B3.c 1 (.int .i64 rg) rfl
  have k2 := B3.c 2 (.int .i64 pl) rfl
  have k3 := B3.c 3 (.int .i64 ix) rfl
  have k4 := B3.c 4 (.int .i64 ic) rfl
  go_wp2_with fail
  with_reducible refine (may_of _ HM.out).mono ?_
  rintro e w4 ⟨rfl, hb4⟩
  go_wp2_with fail
  go_ret
  exact ⟨rfl, bt hbb3 hb4⟩

set_option maxRecDepth 100000 in
set_option maxHeartbeats 4000000 in
theorem els_yes0 (rp rg pl ix ic : Int) (A : Option Addr) (c : Nat) (l : List UInt8)  (w : World) (hr : Rd w A l) (hc : l.length ≤ c) (hm : c ≤ maxLen) (h300 : l.length ≤ 300) (hE : sealE (mayB rp rg pl ix ic) l (two1 true) = 0)  : Calls Tryd.prog 8 #[.agg #[.int .i64 rp, .int .i64 rg, .int .i64 pl, .int .i64 ix, .int .i64 ic], .slice A l.length c, .int .i64 rp, .int .i64 rg, .int .i64 pl] w (RetV w (.bool true)) := by
  have hmk : ∀ W, (Instr.makeSlice 22 (.int .i64 128) (.int .i64 128)).run Tryd.prog W = .ok (.slice (some ⟨W.heap.size, 0, none⟩) 128 128) (W.alloc (.cells (zcs 128) 5)) := mk_run 128 (by omega)
  have HZS := Lib.hid (blank_mine rp rg pl)
  obtain ⟨z0, z1, z2, z3, z4, HZV⟩ := mnV_form (List.replicate 128 0) rp rg pl
  obtain ⟨DZ, HZD⟩ : ∃ D, Hid (mnB (List.replicate 128 0) rp rg pl = D) := ⟨_, Lib.hid rfl⟩
  obtain ⟨L, HL⟩ : ∃ L, Hid (L = sealL rp rg pl ix ic l (two1 true)) := ⟨_, Lib.hid rfl⟩
  obtain ⟨hm0, hw⟩ := sealL_some hE
  obtain ⟨h88, hLe⟩ : l.length ≤ 88 ∧ sealL rp rg pl ix ic l (two1 true) = frmL 128 (tagL rp rg pl ix ic) l := by
    rcases hw with ⟨h, _⟩ | ⟨_, h, h'⟩
    · simp [two1] at h
    · exact ⟨h, h'⟩
  have hLl := (frm_good hm0 (l := l) (n := 128) (.inr ⟨rfl, h88⟩)).1
  obtain ⟨q0, q1, q2, q3, q4, q5, q6⟩ := frm_said hm0 (l := l) (n := 128) (.inr ⟨rfl, h88⟩)
  rw [← hLe, ← HL.out] at hLl q0 q1 q2 q3 q4 q5 q6
  have HLl := Lib.hid hLl
  have ek : mnK L rp rg pl = false := by simp [mnK, q1, q2, q3]
  have HS1 : Hid (mnS L rp rg pl = 1) := Lib.hid (by simp [mnS, ek, q0])
  have HV1 : Hid (mnV L rp rg pl = .agg #[.int .i64 rp, .int .i64 rg, .int .i64 pl, .int .i64 ix, .int .i64 ic]) := Lib.hid (by simp [mnV, ek, frV, q1, q2, q3, q4, q5])
  have HD1 : Hid (mnB L rp rg pl = l) := Lib.hid (by simp [mnB, ek, q6])
  have HS2 : Hid (mnS L rp rg pl = 1) := HS1
  obtain ⟨u0, u1, u2, u3, u4, HV2⟩ := mnV_form L rp rg pl
  obtain ⟨DU, HD2⟩ : ∃ D, Hid (mnB L rp rg pl = D) := ⟨_, Lib.hid rfl⟩
  have hlm : l.length ≤ maxLen := Nat.le_trans hc hm
  clear hLl q0 q1 q2 q3 q4 q5 q6 ek hw hLe hm0 
  go_enter Tryd.func8, Tryd.ntmps8
  go_wp2_with fail
  refine (awake_any _).mono ?_
  rintro e w1 ⟨rfl, hb1⟩
  have B1 := (Blk.new w 25 #[.int .i64 rp, .int .i64 rg, .int .i64 pl, .int .i64 ix, .int .i64 ic]).bel hb1
  have hbb1 := bac hb1
  go_wp2_with fail
  with_reducible refine (mine_n _ 128 128 (List.replicate 128 0) rp rg pl _ (rd_zero _ _) (by decide) (by decide) rfl 0 z0 z1 z2 z3 z4 DZ HZS HZV HZD).mono ?_
  rintro e w2 ⟨A2, c2, rfl, _, _, _, hb2⟩
  have B2 := (B1.alloc (.cells (zcs 128) 5)).bel hb2
  have B2' := B2.alloc (.cells #[.int .i64 z0, .int .i64 z1, .int .i64 z2, .int .i64 z3, .int .i64 z4] 25)
  have hbb2 := bal (bt hbb1 (bac hb2)) (.cells #[.int .i64 z0, .int .i64 z1, .int .i64 z2, .int .i64 z3, .int .i64 z4] 25)
  clear hb1 hb2 hbb1 B1 B2
  have k0 := B2'.c 0 (.int .i64 rp) rfl
  have k1 := B2'.c 1 (.int .i64 rg) rfl
  have k2 := B2'.c 2 (.int .i64 pl) rfl
  have k3 := B2'.c 3 (.int .i64 ix) rfl
  have k4 := B2'.c 4 (.int .i64 ic) rfl
  go_wp2_with fail
  with_reducible refine (sealed_yes rp rg pl ix ic A c l true _ (hr.below hbb2) hE).mono ?_
  rw [← HL.out]
  rintro e w3 ⟨A3, c3, rfl, hown3, hb3⟩
  have B3 := B2'.bel hb3
  have hbb3 := bt hbb2 hb3
  have hcaps3 := hown3.caps
  clear k0 k1 k2 k3 k4
  have k0 := B3.c 0 (.int .i64 rp) rfl
  have k1 := B3.c 1 (.int .i64 rg) rfl
  have k2 := B3.c 2 (.int .i64 pl) rfl
  have k3 := B3.c 3 (.int .i64 ix) rfl
  have k4 := B3.c 4 (.int .i64 ic) rfl
  rw [HLl.out]
  go_wp2_with fail
  with_reducible refine (mine_n A3 c3 128 L rp rg pl _ hown3.rd hcaps3.1 hcaps3.2 HLl.out.symm 1 rp rg pl ix ic l HS1 HV1 HD1).mono ?_
  rintro e w4 ⟨A4, c4, rfl, hm4, hc4, hcm4, hb4⟩
  have r4 := hm4.1.alloc (.cells #[.int .i64 rp, .int .i64 rg, .int .i64 pl, .int .i64 ix, .int .i64 ic] 25)
  have B4 := (B3.bel hb4).alloc (.cells #[.int .i64 rp, .int .i64 rg, .int .i64 pl, .int .i64 ix, .int .i64 ic] 25)
  have C4 := Blk.new w4 25 #[.int .i64 rp, .int .i64 rg, .int .i64 pl, .int .i64 ix, .int .i64 ic]
  have r34 := (hown3.rd.below hb4).alloc (.cells #[.int .i64 rp, .int .i64 rg, .int .i64 pl, .int .i64 ix, .int .i64 ic] 25)
  have hbb4 := bal (bt hbb3 hb4) (.cells #[.int .i64 rp, .int .i64 rg, .int .i64 pl, .int .i64 ix, .int .i64 ic] 25)
  clear hm4 hb4 hb3 hbb3
  go_wp2_with fail
  with_reducible refine (mine_n A3 c3 128 L rp rg pl _ r34 hcaps3.1 hcaps3.2 HLl.out.symm 1 u0 u1 u2 u3 u4 DU HS2 HV2 HD2).mono ?_
  rintro e w5 ⟨A5, c5, rfl, _, _, _, hb5⟩
  have B5 := (B4.bel hb5)
  have C5 := (C4.bel hb5)
  have r5 := (r4.below hb5).alloc (.cells #[.int .i64 u0, .int .i64 u1, .int .i64 u2, .int .i64 u3, .int .i64 u4] 25)
  have hbb5 := bal (bt hbb4 hb5) (.cells #[.int .i64 u0, .int .i64 u1, .int .i64 u2, .int .i64 u3, .int .i64 u4] 25)
  have ra := hr.below hbb5
  clear k0 k1 k2 k3 k4
  have B6 := B5.alloc (.cells #[.int .i64 u0, .int .i64 u1, .int .i64 u2, .int .i64 u3, .int .i64 u4] 25)
  have C6 := C5.alloc (.cells #[.int .i64 u0, .int .i64 u1, .int .i64 u2, .int .i64 u3, .int .i64 u4] 25)
  have k0 := B6.c 0 (.int .i64 rp) rfl
  have k1 := B6.c 1 (.int .i64 rg) rfl
  have k2 := B6.c 2 (.int .i64 pl) rfl
  have k3 := B6.c 3 (.int .i64 ix) rfl
  have k4 := B6.c 4 (.int .i64 ic) rfl
  have d0 := C6.c 0 (.int .i64 rp) rfl
  have d1 := C6.c 1 (.int .i64 rg) rfl
  have d2 := C6.c 2 (.int .i64 pl) rfl
  have d3 := C6.c 3 (.int .i64 ix) rfl
  have d4 := C6.c 4 (.int .i64 ic) rfl
  go_wp2_with fail
  with_reducible refine (same_self A4 A c4 c l l.length l.length _ r5 ra hlm rfl rfl).mono ?_
  rintro e w6 ⟨rfl, hb6⟩
  go_wp2_with fail
  go_ret
  exact ⟨rfl, bt hbb5 hb6⟩

set_option maxRecDepth 100000 in
set_option maxHeartbeats 4000000 in
theorem els_yes1 (rp rg pl ix ic : Int) (A : Option Addr) (c : Nat) (l : List UInt8) (x y z : Int) (w : World) (hr : Rd w A l) (hc : l.length ≤ c) (hm : c ≤ maxLen) (h300 : l.length ≤ 300) (hE : sealE (mayB rp rg pl ix ic) l (two1 true) = 0) (h : x ≠ rp) : Calls Tryd.prog 8 #[.agg #[.int .i64 rp, .int .i64 rg, .int .i64 pl, .int .i64 ix, .int .i64 ic], .slice A l.length c, .int .i64 x, .int .i64 y, .int .i64 z] w (RetV w (.bool true)) := by
  have hmk : ∀ W, (Instr.makeSlice 22 (.int .i64 128) (.int .i64 128)).run Tryd.prog W = .ok (.slice (some ⟨W.heap.size, 0, none⟩) 128 128) (W.alloc (.cells (zcs 128) 5)) := mk_run 128 (by omega)
  have HZS := Lib.hid (blank_mine x y z)
  obtain ⟨z0, z1, z2, z3, z4, HZV⟩ := mnV_form (List.replicate 128 0) x y z
  obtain ⟨DZ, HZD⟩ : ∃ D, Hid (mnB (List.replicate 128 0) x y z = D) := ⟨_, Lib.hid rfl⟩
  obtain ⟨L, HL⟩ : ∃ L, Hid (L = sealL rp rg pl ix ic l (two1 true)) := ⟨_, Lib.hid rfl⟩
  obtain ⟨hm0, hw⟩ := sealL_some hE
  obtain ⟨h88, hLe⟩ : l.length ≤ 88 ∧ sealL rp rg pl ix ic l (two1 true) = frmL 128 (tagL rp rg pl ix ic) l := by
    rcases hw with ⟨h, _⟩ | ⟨_, h, h'⟩
    · simp [two1] at h
    · exact ⟨h, h'⟩
  have hLl := (frm_good hm0 (l := l) (n := 128) (.inr ⟨rfl, h88⟩)).1
  obtain ⟨q0, q1, q2, q3, q4, q5, q6⟩ := frm_said hm0 (l := l) (n := 128) (.inr ⟨rfl, h88⟩)
  rw [← hLe, ← HL.out] at hLl q0 q1 q2 q3 q4 q5 q6
  have HLl := Lib.hid hLl
  have ek : mnK L rp rg pl = false := by simp [mnK, q1, q2, q3]
  have HS1 : Hid (mnS L rp rg pl = 1) := Lib.hid (by simp [mnS, ek, q0])
  have HV1 : Hid (mnV L rp rg pl = .agg #[.int .i64 rp, .int .i64 rg, .int .i64 pl, .int .i64 ix, .int .i64 ic]) := Lib.hid (by simp [mnV, ek, frV, q1, q2, q3, q4, q5])
  have HD1 : Hid (mnB L rp rg pl = l) := Lib.hid (by simp [mnB, ek, q6])
  have HS2 : Hid (mnS L x y z = 2) := Lib.hid (by have : mnK L x y z = true := (by simp [mnK, q0, q1, q2, q3, Ne.symm h]); simp [mnS, this])
  obtain ⟨u0, u1, u2, u3, u4, HV2⟩ := mnV_form L x y z
  obtain ⟨DU, HD2⟩ : ∃ D, Hid (mnB L x y z = D) := ⟨_, Lib.hid rfl⟩
  have hlm : l.length ≤ maxLen := Nat.le_trans hc hm
  have g0 : (x == rp) = false := by rw [beq_eq_false_iff_ne]; exact h
  clear hLl q0 q1 q2 q3 q4 q5 q6 ek hw hLe hm0 h
  go_enter Tryd.func8, Tryd.ntmps8
  go_wp2_with fail
  refine (awake_any _).mono ?_
  rintro e w1 ⟨rfl, hb1⟩
  have B1 := (Blk.new w 25 #[.int .i64 rp, .int .i64 rg, .int .i64 pl, .int .i64 ix, .int .i64 ic]).bel hb1
  have hbb1 := bac hb1
  go_wp2_with fail
  with_reducible refine (mine_n _ 128 128 (List.replicate 128 0) x y z _ (rd_zero _ _) (by decide) (by decide) rfl 0 z0 z1 z2 z3 z4 DZ HZS HZV HZD).mono ?_
  rintro e w2 ⟨A2, c2, rfl, _, _, _, hb2⟩
  have B2 := (B1.alloc (.cells (zcs 128) 5)).bel hb2
  have B2' := B2.alloc (.cells #[.int .i64 z0, .int .i64 z1, .int .i64 z2, .int .i64 z3, .int .i64 z4] 25)
  have hbb2 := bal (bt hbb1 (bac hb2)) (.cells #[.int .i64 z0, .int .i64 z1, .int .i64 z2, .int .i64 z3, .int .i64 z4] 25)
  clear hb1 hb2 hbb1 B1 B2
  have k0 := B2'.c 0 (.int .i64 rp) rfl
  have k1 := B2'.c 1 (.int .i64 rg) rfl
  have k2 := B2'.c 2 (.int .i64 pl) rfl
  have k3 := B2'.c 3 (.int .i64 ix) rfl
  have k4 := B2'.c 4 (.int .i64 ic) rfl
  go_wp2_with fail
  with_reducible refine (sealed_yes rp rg pl ix ic A c l true _ (hr.below hbb2) hE).mono ?_
  rw [← HL.out]
  rintro e w3 ⟨A3, c3, rfl, hown3, hb3⟩
  have B3 := B2'.bel hb3
  have hbb3 := bt hbb2 hb3
  have hcaps3 := hown3.caps
  clear k0 k1 k2 k3 k4
  have k0 := B3.c 0 (.int .i64 rp) rfl
  have k1 := B3.c 1 (.int .i64 rg) rfl
  have k2 := B3.c 2 (.int .i64 pl) rfl
  have k3 := B3.c 3 (.int .i64 ix) rfl
  have k4 := B3.c 4 (.int .i64 ic) rfl
  rw [HLl.out]
  go_wp2_with fail
  with_reducible refine (mine_n A3 c3 128 L rp rg pl _ hown3.rd hcaps3.1 hcaps3.2 HLl.out.symm 1 rp rg pl ix ic l HS1 HV1 HD1).mono ?_
  rintro e w4 ⟨A4, c4, rfl, hm4, hc4, hcm4, hb4⟩
  have r4 := hm4.1.alloc (.cells #[.int .i64 rp, .int .i64 rg, .int .i64 pl, .int .i64 ix, .int .i64 ic] 25)
  have B4 := (B3.bel hb4).alloc (.cells #[.int .i64 rp, .int .i64 rg, .int .i64 pl, .int .i64 ix, .int .i64 ic] 25)
  have C4 := Blk.new w4 25 #[.int .i64 rp, .int .i64 rg, .int .i64 pl, .int .i64 ix, .int .i64 ic]
  have r34 := (hown3.rd.below hb4).alloc (.cells #[.int .i64 rp, .int .i64 rg, .int .i64 pl, .int .i64 ix, .int .i64 ic] 25)
  have hbb4 := bal (bt hbb3 hb4) (.cells #[.int .i64 rp, .int .i64 rg, .int .i64 pl, .int .i64 ix, .int .i64 ic] 25)
  clear hm4 hb4 hb3 hbb3
  go_wp2_with fail
  with_reducible refine (mine_n A3 c3 128 L x y z _ r34 hcaps3.1 hcaps3.2 HLl.out.symm 2 u0 u1 u2 u3 u4 DU HS2 HV2 HD2).mono ?_
  rintro e w5 ⟨A5, c5, rfl, _, _, _, hb5⟩
  have B5 := (B4.bel hb5)
  have C5 := (C4.bel hb5)
  have r5 := (r4.below hb5).alloc (.cells #[.int .i64 u0, .int .i64 u1, .int .i64 u2, .int .i64 u3, .int .i64 u4] 25)
  have hbb5 := bal (bt hbb4 hb5) (.cells #[.int .i64 u0, .int .i64 u1, .int .i64 u2, .int .i64 u3, .int .i64 u4] 25)
  have ra := hr.below hbb5
  clear k0 k1 k2 k3 k4
  have B6 := B5.alloc (.cells #[.int .i64 u0, .int .i64 u1, .int .i64 u2, .int .i64 u3, .int .i64 u4] 25)
  have C6 := C5.alloc (.cells #[.int .i64 u0, .int .i64 u1, .int .i64 u2, .int .i64 u3, .int .i64 u4] 25)
  have k0 := B6.c 0 (.int .i64 rp) rfl
  have k1 := B6.c 1 (.int .i64 rg) rfl
  have k2 := B6.c 2 (.int .i64 pl) rfl
  have k3 := B6.c 3 (.int .i64 ix) rfl
  have k4 := B6.c 4 (.int .i64 ic) rfl
  have d0 := C6.c 0 (.int .i64 rp) rfl
  have d1 := C6.c 1 (.int .i64 rg) rfl
  have d2 := C6.c 2 (.int .i64 pl) rfl
  have d3 := C6.c 3 (.int .i64 ix) rfl
  have d4 := C6.c 4 (.int .i64 ic) rfl
  go_wp2_with fail
  with_reducible refine (same_self A4 A c4 c l l.length l.length _ r5 ra hlm rfl rfl).mono ?_
  rintro e w6 ⟨rfl, hb6⟩
  go_wp2_with fail
  go_ret
  exact ⟨rfl, bt hbb5 hb6⟩

set_option maxRecDepth 100000 in
set_option maxHeartbeats 4000000 in
theorem els_yes2 (rp rg pl ix ic : Int) (A : Option Addr) (c : Nat) (l : List UInt8) (y z : Int) (w : World) (hr : Rd w A l) (hc : l.length ≤ c) (hm : c ≤ maxLen) (h300 : l.length ≤ 300) (hE : sealE (mayB rp rg pl ix ic) l (two1 true) = 0) (h : y ≠ rg) : Calls Tryd.prog 8 #[.agg #[.int .i64 rp, .int .i64 rg, .int .i64 pl, .int .i64 ix, .int .i64 ic], .slice A l.length c, .int .i64 rp, .int .i64 y, .int .i64 z] w (RetV w (.bool true)) := by
  have hmk : ∀ W, (Instr.makeSlice 22 (.int .i64 128) (.int .i64 128)).run Tryd.prog W = .ok (.slice (some ⟨W.heap.size, 0, none⟩) 128 128) (W.alloc (.cells (zcs 128) 5)) := mk_run 128 (by omega)
  have HZS := Lib.hid (blank_mine rp y z)
  obtain ⟨z0, z1, z2, z3, z4, HZV⟩ := mnV_form (List.replicate 128 0) rp y z
  obtain ⟨DZ, HZD⟩ : ∃ D, Hid (mnB (List.replicate 128 0) rp y z = D) := ⟨_, Lib.hid rfl⟩
  obtain ⟨L, HL⟩ : ∃ L, Hid (L = sealL rp rg pl ix ic l (two1 true)) := ⟨_, Lib.hid rfl⟩
  obtain ⟨hm0, hw⟩ := sealL_some hE
  obtain ⟨h88, hLe⟩ : l.length ≤ 88 ∧ sealL rp rg pl ix ic l (two1 true) = frmL 128 (tagL rp rg pl ix ic) l := by
    rcases hw with ⟨h, _⟩ | ⟨_, h, h'⟩
    · simp [two1] at h
    · exact ⟨h, h'⟩
  have hLl := (frm_good hm0 (l := l) (n := 128) (.inr ⟨rfl, h88⟩)).1
  obtain ⟨q0, q1, q2, q3, q4, q5, q6⟩ := frm_said hm0 (l := l) (n := 128) (.inr ⟨rfl, h88⟩)
  rw [← hLe, ← HL.out] at hLl q0 q1 q2 q3 q4 q5 q6
  have HLl := Lib.hid hLl
  have ek : mnK L rp rg pl = false := by simp [mnK, q1, q2, q3]
  have HS1 : Hid (mnS L rp rg pl = 1) := Lib.hid (by simp [mnS, ek, q0])
  have HV1 : Hid (mnV L rp rg pl = .agg #[.int .i64 rp, .int .i64 rg, .int .i64 pl, .int .i64 ix, .int .i64 ic]) := Lib.hid (by simp [mnV, ek, frV, q1, q2, q3, q4, q5])
  have HD1 : Hid (mnB L rp rg pl = l) := Lib.hid (by simp [mnB, ek, q6])
  have HS2 : Hid (mnS L rp y z = 2) := Lib.hid (by have : mnK L rp y z = true := (by simp [mnK, q0, q1, q2, q3, Ne.symm h]); simp [mnS, this])
  obtain ⟨u0, u1, u2, u3, u4, HV2⟩ := mnV_form L rp y z
  obtain ⟨DU, HD2⟩ : ∃ D, Hid (mnB L rp y z = D) := ⟨_, Lib.hid rfl⟩
  have hlm : l.length ≤ maxLen := Nat.le_trans hc hm
  have g0 : (y == rg) = false := by rw [beq_eq_false_iff_ne]; exact h
  clear hLl q0 q1 q2 q3 q4 q5 q6 ek hw hLe hm0 h
  go_enter Tryd.func8, Tryd.ntmps8
  go_wp2_with fail
  refine (awake_any _).mono ?_
  rintro e w1 ⟨rfl, hb1⟩
  have B1 := (Blk.new w 25 #[.int .i64 rp, .int .i64 rg, .int .i64 pl, .int .i64 ix, .int .i64 ic]).bel hb1
  have hbb1 := bac hb1
  go_wp2_with fail
  with_reducible refine (mine_n _ 128 128 (List.replicate 128 0) rp y z _ (rd_zero _ _) (by decide) (by decide) rfl 0 z0 z1 z2 z3 z4 DZ HZS HZV HZD).mono ?_
  rintro e w2 ⟨A2, c2, rfl, _, _, _, hb2⟩
  have B2 := (B1.alloc (.cells (zcs 128) 5)).bel hb2
  have B2' := B2.alloc (.cells #[.int .i64 z0, .int .i64 z1, .int .i64 z2, .int .i64 z3, .int .i64 z4] 25)
  have hbb2 := bal (bt hbb1 (bac hb2)) (.cells #[.int .i64 z0, .int .i64 z1, .int .i64 z2, .int .i64 z3, .int .i64 z4] 25)
  clear hb1 hb2 hbb1 B1 B2
  have k0 := B2'.c 0 (.int .i64 rp) rfl
  have k1 := B2'.c 1 (.int .i64 rg) rfl
  have k2 := B2'.c 2 (.int .i64 pl) rfl
  have k3 := B2'.c 3 (.int .i64 ix) rfl
  have k4 := B2'.c 4 (.int .i64 ic) rfl
  go_wp2_with fail
  with_reducible refine (sealed_yes rp rg pl ix ic A c l true _ (hr.below hbb2) hE).mono ?_
  rw [← HL.out]
  rintro e w3 ⟨A3, c3, rfl, hown3, hb3⟩
  have B3 := B2'.bel hb3
  have hbb3 := bt hbb2 hb3
  have hcaps3 := hown3.caps
  clear k0 k1 k2 k3 k4
  have k0 := B3.c 0 (.int .i64 rp) rfl
  have k1 := B3.c 1 (.int .i64 rg) rfl
  have k2 := B3.c 2 (.int .i64 pl) rfl
  have k3 := B3.c 3 (.int .i64 ix) rfl
  have k4 := B3.c 4 (.int .i64 ic) rfl
  rw [HLl.out]
  go_wp2_with fail
  with_reducible refine (mine_n A3 c3 128 L rp rg pl _ hown3.rd hcaps3.1 hcaps3.2 HLl.out.symm 1 rp rg pl ix ic l HS1 HV1 HD1).mono ?_
  rintro e w4 ⟨A4, c4, rfl, hm4, hc4, hcm4, hb4⟩
  have r4 := hm4.1.alloc (.cells #[.int .i64 rp, .int .i64 rg, .int .i64 pl, .int .i64 ix, .int .i64 ic] 25)
  have B4 := (B3.bel hb4).alloc (.cells #[.int .i64 rp, .int .i64 rg, .int .i64 pl, .int .i64 ix, .int .i64 ic] 25)
  have C4 := Blk.new w4 25 #[.int .i64 rp, .int .i64 rg, .int .i64 pl, .int .i64 ix, .int .i64 ic]
  have r34 := (hown3.rd.below hb4).alloc (.cells #[.int .i64 rp, .int .i64 rg, .int .i64 pl, .int .i64 ix, .int .i64 ic] 25)
  have hbb4 := bal (bt hbb3 hb4) (.cells #[.int .i64 rp, .int .i64 rg, .int .i64 pl, .int .i64 ix, .int .i64 ic] 25)
  clear hm4 hb4 hb3 hbb3
  go_wp2_with fail
  with_reducible refine (mine_n A3 c3 128 L rp y z _ r34 hcaps3.1 hcaps3.2 HLl.out.symm 2 u0 u1 u2 u3 u4 DU HS2 HV2 HD2).mono ?_
  rintro e w5 ⟨A5, c5, rfl, _, _, _, hb5⟩
  have B5 := (B4.bel hb5)
  have C5 := (C4.bel hb5)
  have r5 := (r4.below hb5).alloc (.cells #[.int .i64 u0, .int .i64 u1, .int .i64 u2, .int .i64 u3, .int .i64 u4] 25)
  have hbb5 := bal (bt hbb4 hb5) (.cells #[.int .i64 u0, .int .i64 u1, .int .i64 u2, .int .i64 u3, .int .i64 u4] 25)
  have ra := hr.below hbb5
  clear k0 k1 k2 k3 k4
  have B6 := B5.alloc (.cells #[.int .i64 u0, .int .i64 u1, .int .i64 u2, .int .i64 u3, .int .i64 u4] 25)
  have C6 := C5.alloc (.cells #[.int .i64 u0, .int .i64 u1, .int .i64 u2, .int .i64 u3, .int .i64 u4] 25)
  have k0 := B6.c 0 (.int .i64 rp) rfl
  have k1 := B6.c 1 (.int .i64 rg) rfl
  have k2 := B6.c 2 (.int .i64 pl) rfl
  have k3 := B6.c 3 (.int .i64 ix) rfl
  have k4 := B6.c 4 (.int .i64 ic) rfl
  have d0 := C6.c 0 (.int .i64 rp) rfl
  have d1 := C6.c 1 (.int .i64 rg) rfl
  have d2 := C6.c 2 (.int .i64 pl) rfl
  have d3 := C6.c 3 (.int .i64 ix) rfl
  have d4 := C6.c 4 (.int .i64 ic) rfl
  go_wp2_with fail
  with_reducible refine (same_self A4 A c4 c l l.length l.length _ r5 ra hlm rfl rfl).mono ?_
  rintro e w6 ⟨rfl, hb6⟩
  go_wp2_with fail
  go_ret
  exact ⟨rfl, bt hbb5 hb6⟩

set_option maxRecDepth 100000 in
set_option maxHeartbeats 4000000 in
theorem els_yes3 (rp rg pl ix ic : Int) (A : Option Addr) (c : Nat) (l : List UInt8) (z : Int) (w : World) (hr : Rd w A l) (hc : l.length ≤ c) (hm : c ≤ maxLen) (h300 : l.length ≤ 300) (hE : sealE (mayB rp rg pl ix ic) l (two1 true) = 0) (h : z ≠ pl) : Calls Tryd.prog 8 #[.agg #[.int .i64 rp, .int .i64 rg, .int .i64 pl, .int .i64 ix, .int .i64 ic], .slice A l.length c, .int .i64 rp, .int .i64 rg, .int .i64 z] w (RetV w (.bool true)) := by
  have hmk : ∀ W, (Instr.makeSlice 22 (.int .i64 128) (.int .i64 128)).run Tryd.prog W = .ok (.slice (some ⟨W.heap.size, 0, none⟩) 128 128) (W.alloc (.cells (zcs 128) 5)) := mk_run 128 (by omega)
  have HZS := Lib.hid (blank_mine rp rg z)
  obtain ⟨z0, z1, z2, z3, z4, HZV⟩ := mnV_form (List.replicate 128 0) rp rg z
  obtain ⟨DZ, HZD⟩ : ∃ D, Hid (mnB (List.replicate 128 0) rp rg z = D) := ⟨_, Lib.hid rfl⟩
  obtain ⟨L, HL⟩ : ∃ L, Hid (L = sealL rp rg pl ix ic l (two1 true)) := ⟨_, Lib.hid rfl⟩
  obtain ⟨hm0, hw⟩ := sealL_some hE
  obtain ⟨h88, hLe⟩ : l.length ≤ 88 ∧ sealL rp rg pl ix ic l (two1 true) = frmL 128 (tagL rp rg pl ix ic) l := by
    rcases hw with ⟨h, _⟩ | ⟨_, h, h'⟩
    · simp [two1] at h
    · exact ⟨h, h'⟩
  have hLl := (frm_good hm0 (l := l) (n := 128) (.inr ⟨rfl, h88⟩)).1
  obtain ⟨q0, q1, q2, q3, q4, q5, q6⟩ := frm_said hm0 (l := l) (n := 128) (.inr ⟨rfl, h88⟩)
  rw [← hLe, ← HL.out] at hLl q0 q1 q2 q3 q4 q5 q6
  have HLl := Lib.hid hLl
  have ek : mnK L rp rg pl = false := by simp [mnK, q1, q2, q3]
  have HS1 : Hid (mnS L rp rg pl = 1) := Lib.hid (by simp [mnS, ek, q0])
  have HV1 : Hid (mnV L rp rg pl = .agg #[.int .i64 rp, .int .i64 rg, .int .i64 pl, .int .i64 ix, .int .i64 ic]) := Lib.hid (by simp [mnV, ek, frV, q1, q2, q3, q4, q5])
  have HD1 : Hid (mnB L rp rg pl = l) := Lib.hid (by simp [mnB, ek, q6])
  have HS2 : Hid (mnS L rp rg z = 2) := Lib.hid (by have : mnK L rp rg z = true := (by simp [mnK, q0, q1, q2, q3, Ne.symm h]); simp [mnS, this])
  obtain ⟨u0, u1, u2, u3, u4, HV2⟩ := mnV_form L rp rg z
  obtain ⟨DU, HD2⟩ : ∃ D, Hid (mnB L rp rg z = D) := ⟨_, Lib.hid rfl⟩
  have hlm : l.length ≤ maxLen := Nat.le_trans hc hm
  have g0 : (z == pl) = false := by rw [beq_eq_false_iff_ne]; exact h
  clear hLl q0 q1 q2 q3 q4 q5 q6 ek hw hLe hm0 h
  go_enter Tryd.func8, Tryd.ntmps8
  go_wp2_with fail
  refine (awake_any _).mono ?_
  rintro e w1 ⟨rfl, hb1⟩
  have B1 := (Blk.new w 25 #[.int .i64 rp, .int .i64 rg, .int .i64 pl, .int .i64 ix, .int .i64 ic]).bel hb1
  have hbb1 := bac hb1
  go_wp2_with fail
  with_reducible refine (mine_n _ 128 128 (List.replicate 128 0) rp rg z _ (rd_zero _ _) (by decide) (by decide) rfl 0 z0 z1 z2 z3 z4 DZ HZS HZV HZD).mono ?_
  rintro e w2 ⟨A2, c2, rfl, _, _, _, hb2⟩
  have B2 := (B1.alloc (.cells (zcs 128) 5)).bel hb2
  have B2' := B2.alloc (.cells #[.int .i64 z0, .int .i64 z1, .int .i64 z2, .int .i64 z3, .int .i64 z4] 25)
  have hbb2 := bal (bt hbb1 (bac hb2)) (.cells #[.int .i64 z0, .int .i64 z1, .int .i64 z2, .int .i64 z3, .int .i64 z4] 25)
  clear hb1 hb2 hbb1 B1 B2
  have k0 := B2'.c 0 (.int .i64 rp) rfl
  have k1 := B2'.c 1 (.int .i64 rg) rfl
  have k2 := B2'.c 2 (.int .i64 pl) rfl
  have k3 := B2'.c 3 (.int .i64 ix) rfl
  have k4 := B2'.c 4 (.int .i64 ic) rfl
  go_wp2_with fail
  with_reducible refine (sealed_yes rp rg pl ix ic A c l true _ (hr.below hbb2) hE).mono ?_
  rw [← HL.out]
  rintro e w3 ⟨A3, c3, rfl, hown3, hb3⟩
  have B3 := B2'.bel hb3
  have hbb3 := bt hbb2 hb3
  have hcaps3 := hown3.caps
  clear k0 k1 k2 k3 k4
  have k0 := B3.c 0 (.int .i64 rp) rfl
  have k1 := B3.c 1 (.int .i64 rg) rfl
  have k2 := B3.c 2 (.int .i64 pl) rfl
  have k3 := B3.c 3 (.int .i64 ix) rfl
  have k4 := B3.c 4 (.int .i64 ic) rfl
  rw [HLl.out]
  go_wp2_with fail
  with_reducible refine (mine_n A3 c3 128 L rp rg pl _ hown3.rd hcaps3.1 hcaps3.2 HLl.out.symm 1 rp rg pl ix ic l HS1 HV1 HD1).mono ?_
  rintro e w4 ⟨A4, c4, rfl, hm4, hc4, hcm4, hb4⟩
  have r4 := hm4.1.alloc (.cells #[.int .i64 rp, .int .i64 rg, .int .i64 pl, .int .i64 ix, .int .i64 ic] 25)
  have B4 := (B3.bel hb4).alloc (.cells #[.int .i64 rp, .int .i64 rg, .int .i64 pl, .int .i64 ix, .int .i64 ic] 25)
  have C4 := Blk.new w4 25 #[.int .i64 rp, .int .i64 rg, .int .i64 pl, .int .i64 ix, .int .i64 ic]
  have r34 := (hown3.rd.below hb4).alloc (.cells #[.int .i64 rp, .int .i64 rg, .int .i64 pl, .int .i64 ix, .int .i64 ic] 25)
  have hbb4 := bal (bt hbb3 hb4) (.cells #[.int .i64 rp, .int .i64 rg, .int .i64 pl, .int .i64 ix, .int .i64 ic] 25)
  clear hm4 hb4 hb3 hbb3
  go_wp2_with fail
  with_reducible refine (mine_n A3 c3 128 L rp rg z _ r34 hcaps3.1 hcaps3.2 HLl.out.symm 2 u0 u1 u2 u3 u4 DU HS2 HV2 HD2).mono ?_
  rintro e w5 ⟨A5, c5, rfl, _, _, _, hb5⟩
  have B5 := (B4.bel hb5)
  have C5 := (C4.bel hb5)
  have r5 := (r4.below hb5).alloc (.cells #[.int .i64 u0, .int .i64 u1, .int .i64 u2, .int .i64 u3, .int .i64 u4] 25)
  have hbb5 := bal (bt hbb4 hb5) (.cells #[.int .i64 u0, .int .i64 u1, .int .i64 u2, .int .i64 u3, .int .i64 u4] 25)
  have ra := hr.below hbb5
  clear k0 k1 k2 k3 k4
  have B6 := B5.alloc (.cells #[.int .i64 u0, .int .i64 u1, .int .i64 u2, .int .i64 u3, .int .i64 u4] 25)
  have C6 := C5.alloc (.cells #[.int .i64 u0, .int .i64 u1, .int .i64 u2, .int .i64 u3, .int .i64 u4] 25)
  have k0 := B6.c 0 (.int .i64 rp) rfl
  have k1 := B6.c 1 (.int .i64 rg) rfl
  have k2 := B6.c 2 (.int .i64 pl) rfl
  have k3 := B6.c 3 (.int .i64 ix) rfl
  have k4 := B6.c 4 (.int .i64 ic) rfl
  have d0 := C6.c 0 (.int .i64 rp) rfl
  have d1 := C6.c 1 (.int .i64 rg) rfl
  have d2 := C6.c 2 (.int .i64 pl) rfl
  have d3 := C6.c 3 (.int .i64 ix) rfl
  have d4 := C6.c 4 (.int .i64 ic) rfl
  go_wp2_with fail
  with_reducible refine (same_self A4 A c4 c l l.length l.length _ r5 ra hlm rfl rfl).mono ?_
  rintro e w6 ⟨rfl, hb6⟩
  go_wp2_with fail
  go_ret
  exact ⟨rfl, bt hbb5 hb6⟩

set_option maxRecDepth 100000 in
set_option maxHeartbeats 1000000 in
theorem frameElsewhere_walk (rp rg pl ix ic : Int) (A : Option Addr) (c : Nat) (l : List UInt8) (x y z : Int) (w : World) (b0 : -9223372036854775808 ≤ rp) (b1 : rp ≤ 9223372036854775807) (b2 : -9223372036854775808 ≤ rg) (b3 : rg ≤ 9223372036854775807)
    (b4 : -9223372036854775808 ≤ pl) (b5 : pl ≤ 9223372036854775807) (b6 : -9223372036854775808 ≤ ix) (b7 : ix ≤ 9223372036854775807) (b8 : -9223372036854775808 ≤ ic) (b9 : ic ≤ 9223372036854775807)
    (hr : Rd w A l) (hc : l.length ≤ c) (hm : c ≤ maxLen) (x0 : -9223372036854775808 ≤ x) (x1 : x ≤ 9223372036854775807) (y0 : -9223372036854775808 ≤ y) (y1 : y ≤ 9223372036854775807) (z0 : -9223372036854775808 ≤ z) (z1 : z ≤ 9223372036854775807) :
    Calls Tryd.prog 8 #[.agg #[.int .i64 rp, .int .i64 rg, .int .i64 pl, .int .i64 ix, .int .i64 ic], .slice A l.length c, .int .i64 x, .int .i64 y, .int .i64 z] w (RetV w (.bool true)) := by
  by_cases h3 : 300 < l.length
  · go_enter Tryd.func8, Tryd.ntmps8
    go_wp2_with fail
    refine (awake_any _).mono ?_
    rintro e w1 ⟨rfl, hb1⟩
    go_wp2_with fail
    go_ret
    exact ⟨rfl, bac hb1⟩
  have h300 : l.length ≤ 300 := by omega
  by_cases hE : sealE (mayB rp rg pl ix ic) l (two1 true) = 0
  case neg =>
    rcases sealE_not hE (.inr rfl) with h | h
    · exact els_no0 rp rg pl ix ic A c l x y z w hr hc hm h300 hE h
    · cases hmay : mayB rp rg pl ix ic
      · exact els_no0 rp rg pl ix ic A c l x y z w hr hc hm h300 hE hmay
      · exact els_no1 rp rg pl ix ic A c l x y z w hr hc hm h300 hE hmay (by simpa [two1] using h)
  by_cases h0 : x = rp
  · subst h0
    by_cases h1 : y = rg
    · subst h1
      by_cases h2 : z = pl
      · subst h2; exact els_yes0 x y z ix ic A c l w hr hc hm h300 hE
      · exact els_yes3 x y pl ix ic A c l z w hr hc hm h300 hE h2
    · exact els_yes2 x rg pl ix ic A c l y z w hr hc hm h300 hE h1
  · exact els_yes1 rp rg pl ix ic A c l x y z w hr hc hm h300 hE h0
end Go.Proofs.YtahfippapknolaaDoor
