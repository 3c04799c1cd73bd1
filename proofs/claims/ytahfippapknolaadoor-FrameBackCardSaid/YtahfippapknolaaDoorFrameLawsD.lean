/-
  THE WALK OF THE LAW FrameBack. (Printed by genframeh.py.)
-/
import Derived.Test.YtahfippapknolaaDoorFrameLawsC
namespace Go.Proofs.YtahfippapknolaaDoor
open Go.RowKit
set_option linter.unusedVariables false

/-- what is good, sealed again -/
theorem fr_reseal {b : List UInt8} (hg : frG b = true) :
    sealE (mayB (frF b 0 1) (frF b 1 1) (frF b 2 1) (frF b 3 6) (frF b 9 6)) (frB b) ((b.length : Int) / 64) = 0 ∧ sealL (frF b 0 1) (frF b 1 1) (frF b 2 1) (frF b 3 6) (frF b 9 6) (frB b) ((b.length : Int) / 64) = b := by
  obtain ⟨h0, hz, ht, hn, _, _⟩ := frG_parts hg
  have hs := (seal_own h0 ht hn hz).2 hg
  have hm := (tag_print_parse ht).1
  have hr : 21 + frN b ≤ b.length := by
    rcases okLen_cases h0 with e | e
    · simp [frRoom, e] at hn; omega
    · simp [frRoom, e] at hn; omega
  have hb : (frB b).length = frN b := by unfold frB; rw [hg, if_pos rfl, fr_body_len hr]
  simp only [frF, hg, if_true]
  have he : sealE (mayB (getN (frT b) 0 1) (getN (frT b) 1 1) (getN (frT b) 2 1) (getN (frT b) 3 6) (getN (frT b) 9 6)) (frB b) ((b.length : Int) / 64) = 0 := by
    unfold sealE
    rcases okLen_cases h0 with e | e
    · simp [frRoom, e] at hn
      rw [hm, e, show roomI (((64 : Nat) : Int) / 64) = 43 by decide, if_neg (by simp), if_neg (by omega)]
    · simp [frRoom, e] at hn
      rw [hm, e, show roomI (((128 : Nat) : Int) / 64) = 88 by decide, if_neg (by simp), if_neg (by omega)]
  refine ⟨he, ?_⟩
  unfold sealL
  rw [he, if_pos rfl]
  have e2 : (64 * ((b.length : Int) / 64)).toNat = b.length := by rcases okLen_cases h0 with e | e <;> rw [e] <;> decide
  rw [e2]
  unfold frB
  rw [hg, if_pos rfl]
  exact hs

set_option maxRecDepth 100000 in
set_option maxHeartbeats 4000000 in
theorem back_yes1_g (rp rg pl ix ic : Int) (A : Option Addr) (c : Nat) (l : List UInt8) (B : Option Addr) (d : Nat) (b : List UInt8) (w : World) (hr : Rd w A l) (hc : l.length ≤ c) (hm : c ≤ maxLen) (hr2 : Rd w B b) (hc2 : b.length ≤ d) (hm2 : d ≤ maxLen) (h300 : l.length ≤ 300) (hb300 : b.length ≤ 300) (h43 : l.length ≤ 43) (hm0 : mayB rp rg pl ix ic = true) (hg : frG b = true) : Calls Tryd.prog 4 #[.agg #[.int .i64 rp, .int .i64 rg, .int .i64 pl, .int .i64 ix, .int .i64 ic], .slice A l.length c, .int .i64 1, .slice B b.length d] w (RetV w (.bool true)) := by
  have hbm : b.length ≤ maxLen := Nat.le_trans hc2 hm2
  have hlm : l.length ≤ maxLen := Nat.le_trans hc hm
  have hE : sealE (mayB rp rg pl ix ic) l 1 = 0 := by
    unfold sealE
    rw [hm0, show roomI 1 = 43 from rfl, if_neg (by simp), if_neg (by omega)]
  have hLe : sealL rp rg pl ix ic l 1 = frmL 64 (tagL rp rg pl ix ic) l := by
    unfold sealL
    rw [hE, if_pos rfl]
    rfl
  have HE := Lib.hid hE
  obtain ⟨L, HL⟩ : ∃ L, Hid (L = sealL rp rg pl ix ic l 1) := ⟨_, Lib.hid rfl⟩
  have hLl := (frm_good hm0 (l := l) (n := 64) (.inl ⟨rfl, h43⟩)).1
  obtain ⟨q0, q1, q2, q3, q4, q5, q6⟩ := frm_said hm0 (l := l) (n := 64) (.inl ⟨rfl, h43⟩)
  rw [← hLe, ← HL.out] at hLl q0 q1 q2 q3 q4 q5 q6
  have HLl := Lib.hid hLl
  have HS1 := Lib.hid q0
  have HV1 : Hid (frV L = .agg #[.int .i64 rp, .int .i64 rg, .int .i64 pl, .int .i64 ix, .int .i64 ic]) := Lib.hid (by simp [frV, q1, q2, q3, q4, q5])
  have HD1 := Lib.hid q6
  clear hE hLe hLl q0 q1 q2 q3 q4 q5 q6 hm0
  obtain ⟨r1, r2⟩ := fr_reseal hg
  have q0 : frS b = 1 := by obtain ⟨h0, h3, _⟩ := frG_parts hg; simp [frS, h0, h3, hg]
  obtain ⟨v0, V0⟩ : ∃ v, Hid (v = frF b 0 1) := ⟨_, Lib.hid rfl⟩
  obtain ⟨v1, V1⟩ : ∃ v, Hid (v = frF b 1 1) := ⟨_, Lib.hid rfl⟩
  obtain ⟨v2, V2⟩ : ∃ v, Hid (v = frF b 2 1) := ⟨_, Lib.hid rfl⟩
  obtain ⟨v3, V3⟩ : ∃ v, Hid (v = frF b 3 6) := ⟨_, Lib.hid rfl⟩
  obtain ⟨v4, V4⟩ : ∃ v, Hid (v = frF b 9 6) := ⟨_, Lib.hid rfl⟩
  obtain ⟨D2, HD2⟩ : ∃ D, Hid (frB b = D) := ⟨_, Lib.hid rfl⟩
  rw [← V0.out, ← V1.out, ← V2.out, ← V3.out, ← V4.out, HD2.out] at r1 r2
  have HV2 : Hid (frV b = .agg #[.int .i64 v0, .int .i64 v1, .int .i64 v2, .int .i64 v3, .int .i64 v4]) := Lib.hid (by unfold frV; rw [← V0.out, ← V1.out, ← V2.out, ← V3.out, ← V4.out])
  have HS2 := Lib.hid q0
  have HE2 := Lib.hid r1
  have HL2 := Lib.hid r2
  clear r1 r2 q0 hg
  go_enter Tryd.func4, Tryd.ntmps4
  go_wp2_with fail
  refine (awake_any _).mono ?_
  rintro e w1 ⟨rfl, hb1⟩
  have B1 := (Blk.new w 25 #[.int .i64 rp, .int .i64 rg, .int .i64 pl, .int .i64 ix, .int .i64 ic]).bel hb1
  have hbb1 := bac hb1
  clear hb1
  have k0 := B1.c 0 (.int .i64 rp) rfl
  have k1 := B1.c 1 (.int .i64 rg) rfl
  have k2 := B1.c 2 (.int .i64 pl) rfl
  have k3 := B1.c 3 (.int .i64 ix) rfl
  have k4 := B1.c 4 (.int .i64 ic) rfl
  go_wp2_with fail
  with_reducible refine (seal_n rp rg pl ix ic A c l.length l 1 _ (hr.below hbb1) rfl).mono ?_
  rw [← HL.out, HE.out]
  rintro e w2 ⟨A2, c2, rfl, hown2, hb2⟩
  have B2 := B1.bel hb2
  have hbb2 := bt hbb1 hb2
  have hcaps2 := hown2.caps
  rw [HLl.out]
  clear k0 k1 k2 k3 k4
  have k0 := B2.c 0 (.int .i64 rp) rfl
  have k1 := B2.c 1 (.int .i64 rg) rfl
  have k2 := B2.c 2 (.int .i64 pl) rfl
  have k3 := B2.c 3 (.int .i64 ix) rfl
  have k4 := B2.c 4 (.int .i64 ic) rfl
  go_wp2_with fail
  with_reducible refine (open_n A2 c2 64 L _ hown2.rd hcaps2.1 hcaps2.2 HLl.out.symm 1 rp rg pl ix ic l HS1 HV1 HD1).mono ?_
  rintro e w3 ⟨A3, c3, rfl, hm3, hc3, hcm3, hb3⟩
  have B3 := (B2.bel hb3).alloc (.cells #[.int .i64 rp, .int .i64 rg, .int .i64 pl, .int .i64 ix, .int .i64 ic] 25)
  have r3 := hm3.1.alloc (.cells #[.int .i64 rp, .int .i64 rg, .int .i64 pl, .int .i64 ix, .int .i64 ic] 25)
  have hbb3 := bal (bt hbb2 hb3) (.cells #[.int .i64 rp, .int .i64 rg, .int .i64 pl, .int .i64 ix, .int .i64 ic] 25)
  have ra3 := hr.below hbb3
  clear k0 k1 k2 k3 k4
  clear hb2 hb3 hm3
  have k0 := B3.c 0 (.int .i64 rp) rfl
  have k1 := B3.c 1 (.int .i64 rg) rfl
  have k2 := B3.c 2 (.int .i64 pl) rfl
  have k3 := B3.c 3 (.int .i64 ix) rfl
  have k4 := B3.c 4 (.int .i64 ic) rfl
  go_wp2_with fail
  with_reducible refine (same_self A3 A c3 c l l.length l.length _ r3 ra3 hlm rfl rfl).mono ?_
  rintro e w4 ⟨rfl, hb4⟩
  have hbb4 := bt hbb3 hb4
  clear k0 k1 k2 k3 k4
  clear hb4 hbb3
  go_wp2_with fail
  with_reducible refine (open_n B d b.length b _ (hr2.below hbb4) hc2 hm2 rfl 1 v0 v1 v2 v3 v4 D2 HS2 HV2 HD2).mono ?_
  rintro e w6 ⟨A6, c6, rfl, hm6, hc6, hcm6, hb6⟩
  have r6 := hm6.1.alloc (.cells #[.int .i64 v0, .int .i64 v1, .int .i64 v2, .int .i64 v3, .int .i64 v4] 25)
  have hbb6 := bal (bt hbb4 hb6) (.cells #[.int .i64 v0, .int .i64 v1, .int .i64 v2, .int .i64 v3, .int .i64 v4] 25)
  clear hb6 hm6
  go_wp2_with fail
  with_reducible refine (seal_n v0 v1 v2 v3 v4 A6 c6 D2.length D2 _ _ r6 rfl).mono ?_
  rw [HL2.out, HE2.out]
  rintro e w7 ⟨A7, c7, rfl, hown7, hb7⟩
  have hbb7 := bt hbb6 hb7
  have rb7 := hr2.below hbb7
  clear hb7
  go_wp2_with fail
  with_reducible refine (same_self A7 B c7 d b b.length b.length _ hown7.rd rb7 hbm rfl rfl).mono ?_
  rintro e w8 ⟨rfl, hb8⟩
  go_wp2_with fail
  go_ret
  exact ⟨rfl, bt hbb7 hb8⟩

set_option maxRecDepth 100000 in
set_option maxHeartbeats 4000000 in
theorem back_yes1_b (rp rg pl ix ic : Int) (A : Option Addr) (c : Nat) (l : List UInt8) (B : Option Addr) (d : Nat) (b : List UInt8) (w : World) (hr : Rd w A l) (hc : l.length ≤ c) (hm : c ≤ maxLen) (hr2 : Rd w B b) (hc2 : b.length ≤ d) (hm2 : d ≤ maxLen) (h300 : l.length ≤ 300) (hb300 : b.length ≤ 300) (h43 : l.length ≤ 43) (hm0 : mayB rp rg pl ix ic = true) (hg : frG b = false) : Calls Tryd.prog 4 #[.agg #[.int .i64 rp, .int .i64 rg, .int .i64 pl, .int .i64 ix, .int .i64 ic], .slice A l.length c, .int .i64 1, .slice B b.length d] w (RetV w (.bool true)) := by
  have hbm : b.length ≤ maxLen := Nat.le_trans hc2 hm2
  have hlm : l.length ≤ maxLen := Nat.le_trans hc hm
  have hE : sealE (mayB rp rg pl ix ic) l 1 = 0 := by
    unfold sealE
    rw [hm0, show roomI 1 = 43 from rfl, if_neg (by simp), if_neg (by omega)]
  have hLe : sealL rp rg pl ix ic l 1 = frmL 64 (tagL rp rg pl ix ic) l := by
    unfold sealL
    rw [hE, if_pos rfl]
    rfl
  have HE := Lib.hid hE
  obtain ⟨L, HL⟩ : ∃ L, Hid (L = sealL rp rg pl ix ic l 1) := ⟨_, Lib.hid rfl⟩
  have hLl := (frm_good hm0 (l := l) (n := 64) (.inl ⟨rfl, h43⟩)).1
  obtain ⟨q0, q1, q2, q3, q4, q5, q6⟩ := frm_said hm0 (l := l) (n := 64) (.inl ⟨rfl, h43⟩)
  rw [← hLe, ← HL.out] at hLl q0 q1 q2 q3 q4 q5 q6
  have HLl := Lib.hid hLl
  have HS1 := Lib.hid q0
  have HV1 : Hid (frV L = .agg #[.int .i64 rp, .int .i64 rg, .int .i64 pl, .int .i64 ix, .int .i64 ic]) := Lib.hid (by simp [frV, q1, q2, q3, q4, q5])
  have HD1 := Lib.hid q6
  clear hE hLe hLl q0 q1 q2 q3 q4 q5 q6 hm0
  obtain ⟨S, HS2⟩ : ∃ S, Hid (frS b = S) := ⟨_, Lib.hid rfl⟩
  have hSb : (S != 1) = true := by
    rw [bne_iff_ne, ← HS2.out]
    unfold frS
    split
    · decide
    · split
      · decide
      · rw [hg]; decide
  have HV2 := Lib.hid (frV_none hg).1
  have HD2 := Lib.hid (frV_none hg).2
  clear hg
  go_enter Tryd.func4, Tryd.ntmps4
  go_wp2_with fail
  refine (awake_any _).mono ?_
  rintro e w1 ⟨rfl, hb1⟩
  have B1 := (Blk.new w 25 #[.int .i64 rp, .int .i64 rg, .int .i64 pl, .int .i64 ix, .int .i64 ic]).bel hb1
  have hbb1 := bac hb1
  clear hb1
  have k0 := B1.c 0 (.int .i64 rp) rfl
  have k1 := B1.c 1 (.int .i64 rg) rfl
  have k2 := B1.c 2 (.int .i64 pl) rfl
  have k3 := B1.c 3 (.int .i64 ix) rfl
  have k4 := B1.c 4 (.int .i64 ic) rfl
  go_wp2_with fail
  with_reducible refine (seal_n rp rg pl ix ic A c l.length l 1 _ (hr.below hbb1) rfl).mono ?_
  rw [← HL.out, HE.out]
  rintro e w2 ⟨A2, c2, rfl, hown2, hb2⟩
  have B2 := B1.bel hb2
  have hbb2 := bt hbb1 hb2
  have hcaps2 := hown2.caps
  rw [HLl.out]
  clear k0 k1 k2 k3 k4
  have k0 := B2.c 0 (.int .i64 rp) rfl
  have k1 := B2.c 1 (.int .i64 rg) rfl
  have k2 := B2.c 2 (.int .i64 pl) rfl
  have k3 := B2.c 3 (.int .i64 ix) rfl
  have k4 := B2.c 4 (.int .i64 ic) rfl
  go_wp2_with fail
  with_reducible refine (open_n A2 c2 64 L _ hown2.rd hcaps2.1 hcaps2.2 HLl.out.symm 1 rp rg pl ix ic l HS1 HV1 HD1).mono ?_
  rintro e w3 ⟨A3, c3, rfl, hm3, hc3, hcm3, hb3⟩
  have B3 := (B2.bel hb3).alloc (.cells #[.int .i64 rp, .int .i64 rg, .int .i64 pl, .int .i64 ix, .int .i64 ic] 25)
  have r3 := hm3.1.alloc (.cells #[.int .i64 rp, .int .i64 rg, .int .i64 pl, .int .i64 ix, .int .i64 ic] 25)
  have hbb3 := bal (bt hbb2 hb3) (.cells #[.int .i64 rp, .int .i64 rg, .int .i64 pl, .int .i64 ix, .int .i64 ic] 25)
  have ra3 := hr.below hbb3
  clear k0 k1 k2 k3 k4
  clear hb2 hb3 hm3
  have k0 := B3.c 0 (.int .i64 rp) rfl
  have k1 := B3.c 1 (.int .i64 rg) rfl
  have k2 := B3.c 2 (.int .i64 pl) rfl
  have k3 := B3.c 3 (.int .i64 ix) rfl
  have k4 := B3.c 4 (.int .i64 ic) rfl
  go_wp2_with fail
  with_reducible refine (same_self A3 A c3 c l l.length l.length _ r3 ra3 hlm rfl rfl).mono ?_
  rintro e w4 ⟨rfl, hb4⟩
  have hbb4 := bt hbb3 hb4
  clear k0 k1 k2 k3 k4
  clear hb4 hbb3
  go_wp2_with fail
  with_reducible refine (open_n B d b.length b _ (hr2.below hbb4) hc2 hm2 rfl S 0 0 0 0 0 [] HS2 HV2 HD2).mono ?_
  rintro e w6 ⟨A6, c6, rfl, hm6, hc6, hcm6, hb6⟩
  have hbb6 := bal (bt hbb4 hb6) (.cells #[.int .i64 0, .int .i64 0, .int .i64 0, .int .i64 0, .int .i64 0] 25)
  clear hb6 hm6
  go_wp2_with fail
  go_ret
  exact ⟨rfl, hbb6⟩

set_option maxRecDepth 100000 in
set_option maxHeartbeats 4000000 in
theorem back_yes2_g (rp rg pl ix ic : Int) (A : Option Addr) (c : Nat) (l : List UInt8) (B : Option Addr) (d : Nat) (b : List UInt8) (w : World) (hr : Rd w A l) (hc : l.length ≤ c) (hm : c ≤ maxLen) (hr2 : Rd w B b) (hc2 : b.length ≤ d) (hm2 : d ≤ maxLen) (h300 : l.length ≤ 300) (hb300 : b.length ≤ 300) (h43 : l.length ≤ 88) (hm0 : mayB rp rg pl ix ic = true) (hg : frG b = true) : Calls Tryd.prog 4 #[.agg #[.int .i64 rp, .int .i64 rg, .int .i64 pl, .int .i64 ix, .int .i64 ic], .slice A l.length c, .int .i64 2, .slice B b.length d] w (RetV w (.bool true)) := by
  have hbm : b.length ≤ maxLen := Nat.le_trans hc2 hm2
  have hlm : l.length ≤ maxLen := Nat.le_trans hc hm
  have hE : sealE (mayB rp rg pl ix ic) l 2 = 0 := by
    unfold sealE
    rw [hm0, show roomI 2 = 88 from rfl, if_neg (by simp), if_neg (by omega)]
  have hLe : sealL rp rg pl ix ic l 2 = frmL 128 (tagL rp rg pl ix ic) l := by
    unfold sealL
    rw [hE, if_pos rfl]
    rfl
  have HE := Lib.hid hE
  obtain ⟨L, HL⟩ : ∃ L, Hid (L = sealL rp rg pl ix ic l 2) := ⟨_, Lib.hid rfl⟩
  have hLl := (frm_good hm0 (l := l) (n := 128) (.inr ⟨rfl, h43⟩)).1
  obtain ⟨q0, q1, q2, q3, q4, q5, q6⟩ := frm_said hm0 (l := l) (n := 128) (.inr ⟨rfl, h43⟩)
  rw [← hLe, ← HL.out] at hLl q0 q1 q2 q3 q4 q5 q6
  have HLl := Lib.hid hLl
  have HS1 := Lib.hid q0
  have HV1 : Hid (frV L = .agg #[.int .i64 rp, .int .i64 rg, .int .i64 pl, .int .i64 ix, .int .i64 ic]) := Lib.hid (by simp [frV, q1, q2, q3, q4, q5])
  have HD1 := Lib.hid q6
  clear hE hLe hLl q0 q1 q2 q3 q4 q5 q6 hm0
  obtain ⟨r1, r2⟩ := fr_reseal hg
  have q0 : frS b = 1 := by obtain ⟨h0, h3, _⟩ := frG_parts hg; simp [frS, h0, h3, hg]
  obtain ⟨v0, V0⟩ : ∃ v, Hid (v = frF b 0 1) := ⟨_, Lib.hid rfl⟩
  obtain ⟨v1, V1⟩ : ∃ v, Hid (v = frF b 1 1) := ⟨_, Lib.hid rfl⟩
  obtain ⟨v2, V2⟩ : ∃ v, Hid (v = frF b 2 1) := ⟨_, Lib.hid rfl⟩
  obtain ⟨v3, V3⟩ : ∃ v, Hid (v = frF b 3 6) := ⟨_, Lib.hid rfl⟩
  obtain ⟨v4, V4⟩ : ∃ v, Hid (v = frF b 9 6) := ⟨_, Lib.hid rfl⟩
  obtain ⟨D2, HD2⟩ : ∃ D, Hid (frB b = D) := ⟨_, Lib.hid rfl⟩
  rw [← V0.out, ← V1.out, ← V2.out, ← V3.out, ← V4.out, HD2.out] at r1 r2
  have HV2 : Hid (frV b = .agg #[.int .i64 v0, .int .i64 v1, .int .i64 v2, .int .i64 v3, .int .i64 v4]) := Lib.hid (by unfold frV; rw [← V0.out, ← V1.out, ← V2.out, ← V3.out, ← V4.out])
  have HS2 := Lib.hid q0
  have HE2 := Lib.hid r1
  have HL2 := Lib.hid r2
  clear r1 r2 q0 hg
  go_enter Tryd.func4, Tryd.ntmps4
  go_wp2_with fail
  refine (awake_any _).mono ?_
  rintro e w1 ⟨rfl, hb1⟩
  have B1 := (Blk.new w 25 #[.int .i64 rp, .int .i64 rg, .int .i64 pl, .int .i64 ix, .int .i64 ic]).bel hb1
  have hbb1 := bac hb1
  clear hb1
  have k0 := B1.c 0 (.int .i64 rp) rfl
  have k1 := B1.c 1 (.int .i64 rg) rfl
  have k2 := B1.c 2 (.int .i64 pl) rfl
  have k3 := B1.c 3 (.int .i64 ix) rfl
  have k4 := B1.c 4 (.int .i64 ic) rfl
  go_wp2_with fail
  with_reducible refine (seal_n rp rg pl ix ic A c l.length l 2 _ (hr.below hbb1) rfl).mono ?_
  rw [← HL.out, HE.out]
  rintro e w2 ⟨A2, c2, rfl, hown2, hb2⟩
  have B2 := B1.bel hb2
  have hbb2 := bt hbb1 hb2
  have hcaps2 := hown2.caps
  rw [HLl.out]
  clear k0 k1 k2 k3 k4
  have k0 := B2.c 0 (.int .i64 rp) rfl
  have k1 := B2.c 1 (.int .i64 rg) rfl
  have k2 := B2.c 2 (.int .i64 pl) rfl
  have k3 := B2.c 3 (.int .i64 ix) rfl
  have k4 := B2.c 4 (.int .i64 ic) rfl
  go_wp2_with fail
  with_reducible refine (open_n A2 c2 128 L _ hown2.rd hcaps2.1 hcaps2.2 HLl.out.symm 1 rp rg pl ix ic l HS1 HV1 HD1).mono ?_
  rintro e w3 ⟨A3, c3, rfl, hm3, hc3, hcm3, hb3⟩
  have B3 := (B2.bel hb3).alloc (.cells #[.int .i64 rp, .int .i64 rg, .int .i64 pl, .int .i64 ix, .int .i64 ic] 25)
  have r3 := hm3.1.alloc (.cells #[.int .i64 rp, .int .i64 rg, .int .i64 pl, .int .i64 ix, .int .i64 ic] 25)
  have hbb3 := bal (bt hbb2 hb3) (.cells #[.int .i64 rp, .int .i64 rg, .int .i64 pl, .int .i64 ix, .int .i64 ic] 25)
  have ra3 := hr.below hbb3
  clear k0 k1 k2 k3 k4
  clear hb2 hb3 hm3
  have k0 := B3.c 0 (.int .i64 rp) rfl
  have k1 := B3.c 1 (.int .i64 rg) rfl
  have k2 := B3.c 2 (.int .i64 pl) rfl
  have k3 := B3.c 3 (.int .i64 ix) rfl
  have k4 := B3.c 4 (.int .i64 ic) rfl
  go_wp2_with fail
  with_reducible refine (same_self A3 A c3 c l l.length l.length _ r3 ra3 hlm rfl rfl).mono ?_
  rintro e w4 ⟨rfl, hb4⟩
  have hbb4 := bt hbb3 hb4
  clear k0 k1 k2 k3 k4
  clear hb4 hbb3
  go_wp2_with fail
  with_reducible refine (open_n B d b.length b _ (hr2.below hbb4) hc2 hm2 rfl 1 v0 v1 v2 v3 v4 D2 HS2 HV2 HD2).mono ?_
  rintro e w6 ⟨A6, c6, rfl, hm6, hc6, hcm6, hb6⟩
  have r6 := hm6.1.alloc (.cells #[.int .i64 v0, .int .i64 v1, .int .i64 v2, .int .i64 v3, .int .i64 v4] 25)
  have hbb6 := bal (bt hbb4 hb6) (.cells #[.int .i64 v0, .int .i64 v1, .int .i64 v2, .int .i64 v3, .int .i64 v4] 25)
  clear hb6 hm6
  go_wp2_with fail
  with_reducible refine (seal_n v0 v1 v2 v3 v4 A6 c6 D2.length D2 _ _ r6 rfl).mono ?_
  rw [HL2.out, HE2.out]
  rintro e w7 ⟨A7, c7, rfl, hown7, hb7⟩
  have hbb7 := bt hbb6 hb7
  have rb7 := hr2.below hbb7
  clear hb7
  go_wp2_with fail
  with_reducible refine (same_self A7 B c7 d b b.length b.length _ hown7.rd rb7 hbm rfl rfl).mono ?_
  rintro e w8 ⟨rfl, hb8⟩
  go_wp2_with fail
  go_ret
  exact ⟨rfl, bt hbb7 hb8⟩

set_option maxRecDepth 100000 in
set_option maxHeartbeats 4000000 in
theorem back_yes2_b (rp rg pl ix ic : Int) (A : Option Addr) (c : Nat) (l : List UInt8) (B : Option Addr) (d : Nat) (b : List UInt8) (w : World) (hr : Rd w A l) (hc : l.length ≤ c) (hm : c ≤ maxLen) (hr2 : Rd w B b) (hc2 : b.length ≤ d) (hm2 : d ≤ maxLen) (h300 : l.length ≤ 300) (hb300 : b.length ≤ 300) (h43 : l.length ≤ 88) (hm0 : mayB rp rg pl ix ic = true) (hg : frG b = false) : Calls Tryd.prog 4 #[.agg #[.int .i64 rp, .int .i64 rg, .int .i64 pl, .int .i64 ix, .int .i64 ic], .slice A l.length c, .int .i64 2, .slice B b.length d] w (RetV w (.bool true)) := by
  have hbm : b.length ≤ maxLen := Nat.le_trans hc2 hm2
  have hlm : l.length ≤ maxLen := Nat.le_trans hc hm
  have hE : sealE (mayB rp rg pl ix ic) l 2 = 0 := by
    unfold sealE
    rw [hm0, show roomI 2 = 88 from rfl, if_neg (by simp), if_neg (by omega)]
  have hLe : sealL rp rg pl ix ic l 2 = frmL 128 (tagL rp rg pl ix ic) l := by
    unfold sealL
    rw [hE, if_pos rfl]
    rfl
  have HE := Lib.hid hE
  obtain ⟨L, HL⟩ : ∃ L, Hid (L = sealL rp rg pl ix ic l 2) := ⟨_, Lib.hid rfl⟩
  have hLl := (frm_good hm0 (l := l) (n := 128) (.inr ⟨rfl, h43⟩)).1
  obtain ⟨q0, q1, q2, q3, q4, q5, q6⟩ := frm_said hm0 (l := l) (n := 128) (.inr ⟨rfl, h43⟩)
  rw [← hLe, ← HL.out] at hLl q0 q1 q2 q3 q4 q5 q6
  have HLl := Lib.hid hLl
  have HS1 := Lib.hid q0
  have HV1 : Hid (frV L = .agg #[.int .i64 rp, .int .i64 rg, .int .i64 pl, .int .i64 ix, .int .i64 ic]) := Lib.hid (by simp [frV, q1, q2, q3, q4, q5])
  have HD1 := Lib.hid q6
  clear hE hLe hLl q0 q1 q2 q3 q4 q5 q6 hm0
  obtain ⟨S, HS2⟩ : ∃ S, Hid (frS b = S) := ⟨_, Lib.hid rfl⟩
  have hSb : (S != 1) = true := by
    rw [bne_iff_ne, ← HS2.out]
    unfold frS
    split
    · decide
    · split
      · decide
      · rw [hg]; decide
  have HV2 := Lib.hid (frV_none hg).1
  have HD2 := Lib.hid (frV_none hg).2
  clear hg
  go_enter Tryd.func4, Tryd.ntmps4
  go_wp2_with fail
  refine (awake_any _).mono ?_
  rintro e w1 ⟨rfl, hb1⟩
  have B1 := (Blk.new w 25 #[.int .i64 rp, .int .i64 rg, .int .i64 pl, .int .i64 ix, .int .i64 ic]).bel hb1
  have hbb1 := bac hb1
  clear hb1
  have k0 := B1.c 0 (.int .i64 rp) rfl
  have k1 := B1.c 1 (.int .i64 rg) rfl
  have k2 := B1.c 2 (.int .i64 pl) rfl
  have k3 := B1.c 3 (.int .i64 ix) rfl
  have k4 := B1.c 4 (.int .i64 ic) rfl
  go_wp2_with fail
  with_reducible refine (seal_n rp rg pl ix ic A c l.length l 2 _ (hr.below hbb1) rfl).mono ?_
  rw [← HL.out, HE.out]
  rintro e w2 ⟨A2, c2, rfl, hown2, hb2⟩
  have B2 := B1.bel hb2
  have hbb2 := bt hbb1 hb2
  have hcaps2 := hown2.caps
  rw [HLl.out]
  clear k0 k1 k2 k3 k4
  have k0 := B2.c 0 (.int .i64 rp) rfl
  have k1 := B2.c 1 (.int .i64 rg) rfl
  have k2 := B2.c 2 (.int .i64 pl) rfl
  have k3 := B2.c 3 (.int .i64 ix) rfl
  have k4 := B2.c 4 (.int .i64 ic) rfl
  go_wp2_with fail
  with_reducible refine (open_n A2 c2 128 L _ hown2.rd hcaps2.1 hcaps2.2 HLl.out.symm 1 rp rg pl ix ic l HS1 HV1 HD1).mono ?_
  rintro e w3 ⟨A3, c3, rfl, hm3, hc3, hcm3, hb3⟩
  have B3 := (B2.bel hb3).alloc (.cells #[.int .i64 rp, .int .i64 rg, .int .i64 pl, .int .i64 ix, .int .i64 ic] 25)
  have r3 := hm3.1.alloc (.cells #[.int .i64 rp, .int .i64 rg, .int .i64 pl, .int .i64 ix, .int .i64 ic] 25)
  have hbb3 := bal (bt hbb2 hb3) (.cells #[.int .i64 rp, .int .i64 rg, .int .i64 pl, .int .i64 ix, .int .i64 ic] 25)
  have ra3 := hr.below hbb3
  clear k0 k1 k2 k3 k4
  clear hb2 hb3 hm3
  have k0 := B3.c 0 (.int .i64 rp) rfl
  have k1 := B3.c 1 (.int .i64 rg) rfl
  have k2 := B3.c 2 (.int .i64 pl) rfl
  have k3 := B3.c 3 (.int .i64 ix) rfl
  have k4 := B3.c 4 (.int .i64 ic) rfl
  go_wp2_with fail
  with_reducible refine (same_self A3 A c3 c l l.length l.length _ r3 ra3 hlm rfl rfl).mono ?_
  rintro e w4 ⟨rfl, hb4⟩
  have hbb4 := bt hbb3 hb4
  clear k0 k1 k2 k3 k4
  clear hb4 hbb3
  go_wp2_with fail
  with_reducible refine (open_n B d b.length b _ (hr2.below hbb4) hc2 hm2 rfl S 0 0 0 0 0 [] HS2 HV2 HD2).mono ?_
  rintro e w6 ⟨A6, c6, rfl, hm6, hc6, hcm6, hb6⟩
  have hbb6 := bal (bt hbb4 hb6) (.cells #[.int .i64 0, .int .i64 0, .int .i64 0, .int .i64 0, .int .i64 0] 25)
  clear hb6 hm6
  go_wp2_with fail
  go_ret
  exact ⟨rfl, hbb6⟩

set_option maxRecDepth 100000 in
set_option maxHeartbeats 4000000 in
theorem back_noA_g (rp rg pl ix ic : Int) (A : Option Addr) (c : Nat) (l : List UInt8) (s : Int) (B : Option Addr) (d : Nat) (b : List UInt8) (w : World) (hr : Rd w A l) (hc : l.length ≤ c) (hm : c ≤ maxLen) (hr2 : Rd w B b) (hc2 : b.length ≤ d) (hm2 : d ≤ maxLen) (h300 : l.length ≤ 300) (hb300 : b.length ≤ 300) (hm0 : mayB rp rg pl ix ic = false) (hg : frG b = true) : Calls Tryd.prog 4 #[.agg #[.int .i64 rp, .int .i64 rg, .int .i64 pl, .int .i64 ix, .int .i64 ic], .slice A l.length c, .int .i64 s, .slice B b.length d] w (RetV w (.bool true)) := by
  have hbm : b.length ≤ maxLen := Nat.le_trans hc2 hm2
  have hlm : l.length ≤ maxLen := Nat.le_trans hc hm
  have hE : sealE (mayB rp rg pl ix ic) l s ≠ 0 := by simp [sealE, hm0]
  have HN := Lib.hid (sealL_none hE)
  obtain ⟨E, HE⟩ : ∃ E, Hid (E = sealE (mayB rp rg pl ix ic) l s) := ⟨_, Lib.hid rfl⟩
  have hEb : (E == 0) = false := by rw [beq_eq_false_iff_ne, HE.out]; exact hE
  have HM := Lib.hid hm0
  obtain ⟨R, HR⟩ : ∃ R, Hid (roomI s = R) := ⟨_, Lib.hid rfl⟩
  clear hE hm0 
  obtain ⟨r1, r2⟩ := fr_reseal hg
  have q0 : frS b = 1 := by obtain ⟨h0, h3, _⟩ := frG_parts hg; simp [frS, h0, h3, hg]
  obtain ⟨v0, V0⟩ : ∃ v, Hid (v = frF b 0 1) := ⟨_, Lib.hid rfl⟩
  obtain ⟨v1, V1⟩ : ∃ v, Hid (v = frF b 1 1) := ⟨_, Lib.hid rfl⟩
  obtain ⟨v2, V2⟩ : ∃ v, Hid (v = frF b 2 1) := ⟨_, Lib.hid rfl⟩
  obtain ⟨v3, V3⟩ : ∃ v, Hid (v = frF b 3 6) := ⟨_, Lib.hid rfl⟩
  obtain ⟨v4, V4⟩ : ∃ v, Hid (v = frF b 9 6) := ⟨_, Lib.hid rfl⟩
  obtain ⟨D2, HD2⟩ : ∃ D, Hid (frB b = D) := ⟨_, Lib.hid rfl⟩
  rw [← V0.out, ← V1.out, ← V2.out, ← V3.out, ← V4.out, HD2.out] at r1 r2
  have HV2 : Hid (frV b = .agg #[.int .i64 v0, .int .i64 v1, .int .i64 v2, .int .i64 v3, .int .i64 v4]) := Lib.hid (by unfold frV; rw [← V0.out, ← V1.out, ← V2.out, ← V3.out, ← V4.out])
  have HS2 := Lib.hid q0
  have HE2 := Lib.hid r1
  have HL2 := Lib.hid r2
  clear r1 r2 q0 hg
  go_enter Tryd.func4, Tryd.ntmps4
  go_wp2_with fail
  refine (awake_any _).mono ?_
  rintro e w1 ⟨rfl, hb1⟩
  have B1 := (Blk.new w 25 #[.int .i64 rp, .int .i64 rg, .int .i64 pl, .int .i64 ix, .int .i64 ic]).bel hb1
  have hbb1 := bac hb1
  clear hb1
  have k0 := B1.c 0 (.int .i64 rp) rfl
  have k1 := B1.c 1 (.int .i64 rg) rfl
  have k2 := B1.c 2 (.int .i64 pl) rfl
  have k3 := B1.c 3 (.int .i64 ix) rfl
  have k4 := B1.c 4 (.int .i64 ic) rfl
  go_wp2_with fail
  with_reducible refine (seal_n rp rg pl ix ic A c l.length l s _ (hr.below hbb1) rfl).mono ?_
  rw [HN.out, ← HE.out]
  rintro e w2 ⟨A2, c2, rfl, hown2, hb2⟩
  have B2 := B1.bel hb2
  have hbb2 := bt hbb1 hb2
  clear k0 k1 k2 k3 k4
  have k0 := B2.c 0 (.int .i64 rp) rfl
  have k1 := B2.c 1 (.int .i64 rg) rfl
  have k2 := B2.c 2 (.int .i64 pl) rfl
  have k3 := B2.c 3 (.int .i64 ix) rfl
  have k4 := B2.c 4 (.int .i64 ic) rfl
  go_wp2_with fail
  with_reducible refine (may_of _ HM.out).mono ?_
  rintro e w4 ⟨rfl, hb4⟩
  have hbb4 := bt hbb2 hb4
  clear k0 k1 k2 k3 k4
  clear hb2 hb4 hbb2
  go_wp2_with fail
  with_reducible refine (open_n B d b.length b _ (hr2.below hbb4) hc2 hm2 rfl 1 v0 v1 v2 v3 v4 D2 HS2 HV2 HD2).mono ?_
  rintro e w6 ⟨A6, c6, rfl, hm6, hc6, hcm6, hb6⟩
  have r6 := hm6.1.alloc (.cells #[.int .i64 v0, .int .i64 v1, .int .i64 v2, .int .i64 v3, .int .i64 v4] 25)
  have hbb6 := bal (bt hbb4 hb6) (.cells #[.int .i64 v0, .int .i64 v1, .int .i64 v2, .int .i64 v3, .int .i64 v4] 25)
  clear hb6 hm6
  go_wp2_with fail
  with_reducible refine (seal_n v0 v1 v2 v3 v4 A6 c6 D2.length D2 _ _ r6 rfl).mono ?_
  rw [HL2.out, HE2.out]
  rintro e w7 ⟨A7, c7, rfl, hown7, hb7⟩
  have hbb7 := bt hbb6 hb7
  have rb7 := hr2.below hbb7
  clear hb7
  go_wp2_with fail
  with_reducible refine (same_self A7 B c7 d b b.length b.length _ hown7.rd rb7 hbm rfl rfl).mono ?_
  rintro e w8 ⟨rfl, hb8⟩
  go_wp2_with fail
  go_ret
  exact ⟨rfl, bt hbb7 hb8⟩

set_option maxRecDepth 100000 in
set_option maxHeartbeats 4000000 in
theorem back_noA_b (rp rg pl ix ic : Int) (A : Option Addr) (c : Nat) (l : List UInt8) (s : Int) (B : Option Addr) (d : Nat) (b : List UInt8) (w : World) (hr : Rd w A l) (hc : l.length ≤ c) (hm : c ≤ maxLen) (hr2 : Rd w B b) (hc2 : b.length ≤ d) (hm2 : d ≤ maxLen) (h300 : l.length ≤ 300) (hb300 : b.length ≤ 300) (hm0 : mayB rp rg pl ix ic = false) (hg : frG b = false) : Calls Tryd.prog 4 #[.agg #[.int .i64 rp, .int .i64 rg, .int .i64 pl, .int .i64 ix, .int .i64 ic], .slice A l.length c, .int .i64 s, .slice B b.length d] w (RetV w (.bool true)) := by
  have hbm : b.length ≤ maxLen := Nat.le_trans hc2 hm2
  have hlm : l.length ≤ maxLen := Nat.le_trans hc hm
  have hE : sealE (mayB rp rg pl ix ic) l s ≠ 0 := by simp [sealE, hm0]
  have HN := Lib.hid (sealL_none hE)
  obtain ⟨E, HE⟩ : ∃ E, Hid (E = sealE (mayB rp rg pl ix ic) l s) := ⟨_, Lib.hid rfl⟩
  have hEb : (E == 0) = false := by rw [beq_eq_false_iff_ne, HE.out]; exact hE
  have HM := Lib.hid hm0
  obtain ⟨R, HR⟩ : ∃ R, Hid (roomI s = R) := ⟨_, Lib.hid rfl⟩
  clear hE hm0 
  obtain ⟨S, HS2⟩ : ∃ S, Hid (frS b = S) := ⟨_, Lib.hid rfl⟩
  have hSb : (S != 1) = true := by
    rw [bne_iff_ne, ← HS2.out]
    unfold frS
    split
    · decide
    · split
      · decide
      · rw [hg]; decide
  have HV2 := Lib.hid (frV_none hg).1
  have HD2 := Lib.hid (frV_none hg).2
  clear hg
  go_enter Tryd.func4, Tryd.ntmps4
  go_wp2_with fail
  refine (awake_any _).mono ?_
  rintro e w1 ⟨rfl, hb1⟩
  have B1 := (Blk.new w 25 #[.int .i64 rp, .int .i64 rg, .int .i64 pl, .int .i64 ix, .int .i64 ic]).bel hb1
  have hbb1 := bac hb1
  clear hb1
  have k0 := B1.c 0 (.int .i64 rp) rfl
  have k1 := B1.c 1 (.int .i64 rg) rfl
  have k2 := B1.c 2 (.int .i64 pl) rfl
  have k3 := B1.c 3 (.int .i64 ix) rfl
  have k4 := B1.c 4 (.int .i64 ic) rfl
  go_wp2_with fail
  with_reducible refine (seal_n rp rg pl ix ic A c l.length l s _ (hr.below hbb1) rfl).mono ?_
  rw [HN.out, ← HE.out]
  rintro e w2 ⟨A2, c2, rfl, hown2, hb2⟩
  have B2 := B1.bel hb2
  have hbb2 := bt hbb1 hb2
  clear k0 k1 k2 k3 k4
  have k0 := B2.c 0 (.int .i64 rp) rfl
  have k1 := B2.c 1 (.int .i64 rg) rfl
  have k2 := B2.c 2 (.int .i64 pl) rfl
  have k3 := B2.c 3 (.int .i64 ix) rfl
  have k4 := B2.c 4 (.int .i64 ic) rfl
  go_wp2_with fail
  with_reducible refine (may_of _ HM.out).mono ?_
  rintro e w4 ⟨rfl, hb4⟩
  have hbb4 := bt hbb2 hb4
  clear k0 k1 k2 k3 k4
  clear hb2 hb4 hbb2
  go_wp2_with fail
  with_reducible refine (open_n B d b.length b _ (hr2.below hbb4) hc2 hm2 rfl S 0 0 0 0 0 [] HS2 HV2 HD2).mono ?_
  rintro e w6 ⟨A6, c6, rfl, hm6, hc6, hcm6, hb6⟩
  have hbb6 := bal (bt hbb4 hb6) (.cells #[.int .i64 0, .int .i64 0, .int .i64 0, .int .i64 0, .int .i64 0] 25)
  clear hb6 hm6
  go_wp2_with fail
  go_ret
  exact ⟨rfl, hbb6⟩

set_option maxRecDepth 100000 in
set_option maxHeartbeats 4000000 in
theorem back_noB_g (rp rg pl ix ic : Int) (A : Option Addr) (c : Nat) (l : List UInt8) (s : Int) (B : Option Addr) (d : Nat) (b : List UInt8) (w : World) (hr : Rd w A l) (hc : l.length ≤ c) (hm : c ≤ maxLen) (hr2 : Rd w B b) (hc2 : b.length ≤ d) (hm2 : d ≤ maxLen) (h300 : l.length ≤ 300) (hb300 : b.length ≤ 300) (hm0 : mayB rp rg pl ix ic = true) (hrm : roomI s < l.length) (hg : frG b = true) : Calls Tryd.prog 4 #[.agg #[.int .i64 rp, .int .i64 rg, .int .i64 pl, .int .i64 ix, .int .i64 ic], .slice A l.length c, .int .i64 s, .slice B b.length d] w (RetV w (.bool true)) := by
  have hbm : b.length ≤ maxLen := Nat.le_trans hc2 hm2
  have hlm : l.length ≤ maxLen := Nat.le_trans hc hm
  have hE : sealE (mayB rp rg pl ix ic) l s ≠ 0 := fun h => by unfold sealE at h; rw [hm0] at h; split at h <;> omega
  have HN := Lib.hid (sealL_none hE)
  obtain ⟨E, HE⟩ : ∃ E, Hid (E = sealE (mayB rp rg pl ix ic) l s) := ⟨_, Lib.hid rfl⟩
  have hEb : (E == 0) = false := by rw [beq_eq_false_iff_ne, HE.out]; exact hE
  have HM := Lib.hid hm0
  obtain ⟨R, HR⟩ : ∃ R, Hid (roomI s = R) := ⟨_, Lib.hid rfl⟩
  have hrl : decide ((l.length : Int) ≤ R) = false := decide_eq_false (by rw [← HR.out]; omega)
  clear hE hm0 hrm
  obtain ⟨r1, r2⟩ := fr_reseal hg
  have q0 : frS b = 1 := by obtain ⟨h0, h3, _⟩ := frG_parts hg; simp [frS, h0, h3, hg]
  obtain ⟨v0, V0⟩ : ∃ v, Hid (v = frF b 0 1) := ⟨_, Lib.hid rfl⟩
  obtain ⟨v1, V1⟩ : ∃ v, Hid (v = frF b 1 1) := ⟨_, Lib.hid rfl⟩
  obtain ⟨v2, V2⟩ : ∃ v, Hid (v = frF b 2 1) := ⟨_, Lib.hid rfl⟩
  obtain ⟨v3, V3⟩ : ∃ v, Hid (v = frF b 3 6) := ⟨_, Lib.hid rfl⟩
  obtain ⟨v4, V4⟩ : ∃ v, Hid (v = frF b 9 6) := ⟨_, Lib.hid rfl⟩
  obtain ⟨D2, HD2⟩ : ∃ D, Hid (frB b = D) := ⟨_, Lib.hid rfl⟩
  rw [← V0.out, ← V1.out, ← V2.out, ← V3.out, ← V4.out, HD2.out] at r1 r2
  have HV2 : Hid (frV b = .agg #[.int .i64 v0, .int .i64 v1, .int .i64 v2, .int .i64 v3, .int .i64 v4]) := Lib.hid (by unfold frV; rw [← V0.out, ← V1.out, ← V2.out, ← V3.out, ← V4.out])
  have HS2 := Lib.hid q0
  have HE2 := Lib.hid r1
  have HL2 := Lib.hid r2
  clear r1 r2 q0 hg
  go_enter Tryd.func4, Tryd.ntmps4
  go_wp2_with fail
  refine (awake_any _).mono ?_
  rintro e w1 ⟨rfl, hb1⟩
  have B1 := (Blk.new w 25 #[.int .i64 rp, .int .i64 rg, .int .i64 pl, .int .i64 ix, .int .i64 ic]).bel hb1
  have hbb1 := bac hb1
  clear hb1
  have k0 := B1.c 0 (.int .i64 rp) rfl
  have k1 := B1.c 1 (.int .i64 rg) rfl
  have k2 := B1.c 2 (.int .i64 pl) rfl
  have k3 := B1.c 3 (.int .i64 ix) rfl
  have k4 := B1.c 4 (.int .i64 ic) rfl
  go_wp2_with fail
  with_reducible refine (seal_n rp rg pl ix ic A c l.length l s _ (hr.below hbb1) rfl).mono ?_
  rw [HN.out, ← HE.out]
  rintro e w2 ⟨A2, c2, rfl, hown2, hb2⟩
  have B2 := B1.bel hb2
  have hbb2 := bt hbb1 hb2
  clear k0 k1 k2 k3 k4
  have k0 := B2.c 0 (.int .i64 rp) rfl
  have k1 := B2.c 1 (.int .i64 rg) rfl
  have k2 := B2.c 2 (.int .i64 pl) rfl
  have k3 := B2.c 3 (.int .i64 ix) rfl
  have k4 := B2.c 4 (.int .i64 ic) rfl
  go_wp2_with fail
  with_reducible refine (may_of _ HM.out).mono ?_
  rintro e w4 ⟨rfl, hb4⟩
  have hbb4 := bt hbb2 hb4
  clear k0 k1 k2 k3 k4
  clear hb2 hb4 hbb2
  go_wp2_with fail
  refine (room_any _ _).mono ?_
  rw [HR.out]
  rintro e w5 ⟨rfl, rfl⟩
  go_wp2_with fail
  with_reducible refine (open_n B d b.length b _ (hr2.below hbb4) hc2 hm2 rfl 1 v0 v1 v2 v3 v4 D2 HS2 HV2 HD2).mono ?_
  rintro e w6 ⟨A6, c6, rfl, hm6, hc6, hcm6, hb6⟩
  have r6 := hm6.1.alloc (.cells #[.int .i64 v0, .int .i64 v1, .int .i64 v2, .int .i64 v3, .int .i64 v4] 25)
  have hbb6 := bal (bt hbb4 hb6) (.cells #[.int .i64 v0, .int .i64 v1, .int .i64 v2, .int .i64 v3, .int .i64 v4] 25)
  clear hb6 hm6
  go_wp2_with fail
  with_reducible refine (seal_n v0 v1 v2 v3 v4 A6 c6 D2.length D2 _ _ r6 rfl).mono ?_
  rw [HL2.out, HE2.out]
  rintro e w7 ⟨A7, c7, rfl, hown7, hb7⟩
  have hbb7 := bt hbb6 hb7
  have rb7 := hr2.below hbb7
  clear hb7
  go_wp2_with fail
  with_reducible refine (same_self A7 B c7 d b b.length b.length _ hown7.rd rb7 hbm rfl rfl).mono ?_
  rintro e w8 ⟨rfl, hb8⟩
  go_wp2_with fail
  go_ret
  exact ⟨rfl, bt hbb7 hb8⟩

set_option maxRecDepth 100000 in
set_option maxHeartbeats 4000000 in
theorem back_noB_b (rp rg pl ix ic : Int) (A : Option Addr) (c : Nat) (l : List UInt8) (s : Int) (B : Option Addr) (d : Nat) (b : List UInt8) (w : World) (hr : Rd w A l) (hc : l.length ≤ c) (hm : c ≤ maxLen) (hr2 : Rd w B b) (hc2 : b.length ≤ d) (hm2 : d ≤ maxLen) (h300 : l.length ≤ 300) (hb300 : b.length ≤ 300) (hm0 : mayB rp rg pl ix ic = true) (hrm : roomI s < l.length) (hg : frG b = false) : Calls Tryd.prog 4 #[.agg #[.int .i64 rp, .int .i64 rg, .int .i64 pl, .int .i64 ix, .int .i64 ic], .slice A l.length c, .int .i64 s, .slice B b.length d] w (RetV w (.bool true)) := by
  have hbm : b.length ≤ maxLen := Nat.le_trans hc2 hm2
  have hlm : l.length ≤ maxLen := Nat.le_trans hc hm
  have hE : sealE (mayB rp rg pl ix ic) l s ≠ 0 := fun h => by unfold sealE at h; rw [hm0] at h; split at h <;> omega
  have HN := Lib.hid (sealL_none hE)
  obtain ⟨E, HE⟩ : ∃ E, Hid (E = sealE (mayB rp rg pl ix ic) l s) := ⟨_, Lib.hid rfl⟩
  have hEb : (E == 0) = false := by rw [beq_eq_false_iff_ne, HE.out]; exact hE
  have HM := Lib.hid hm0
  obtain ⟨R, HR⟩ : ∃ R, Hid (roomI s = R) := ⟨_, Lib.hid rfl⟩
  have hrl : decide ((l.length : Int) ≤ R) = false := decide_eq_false (by rw [← HR.out]; omega)
  clear hE hm0 hrm
  obtain ⟨S, HS2⟩ : ∃ S, Hid (frS b = S) := ⟨_, Lib.hid rfl⟩
  have hSb : (S != 1) = true := by
    rw [bne_iff_ne, ← HS2.out]
    unfold frS
    split
    · decide
    · split
      · decide
      · rw [hg]; decide
  have HV2 := Lib.hid (frV_none hg).1
  have HD2 := Lib.hid (frV_none hg).2
  clear hg
  go_enter Tryd.func4, Tryd.ntmps4
  go_wp2_with fail
  refine (awake_any _).mono ?_
  rintro e w1 ⟨rfl, hb1⟩
  have B1 := (Blk.new w 25 #[.int .i64 rp, .int .i64 rg, .int .i64 pl, .int .i64 ix, .int .i64 ic]).bel hb1
  have hbb1 := bac hb1
  clear hb1
  have k0 := B1.c 0 (.int .i64 rp) rfl
  have k1 := B1.c 1 (.int .i64 rg) rfl
  have k2 := B1.c 2 (.int .i64 pl) rfl
  have k3 := B1.c 3 (.int .i64 ix) rfl
  have k4 := B1.c 4 (.int .i64 ic) rfl
  go_wp2_with fail
  with_reducible refine (seal_n rp rg pl ix ic A c l.length l s _ (hr.below hbb1) rfl).mono ?_
  rw [HN.out, ← HE.out]
  rintro e w2 ⟨A2, c2, rfl, hown2, hb2⟩
  have B2 := B1.bel hb2
  have hbb2 := bt hbb1 hb2
  clear k0 k1 k2 k3 k4
  have k0 := B2.c 0 (.int .i64 rp) rfl
  have k1 := B2.c 1 (.int .i64 rg) rfl
  have k2 := B2.c 2 (.int .i64 pl) rfl
  have k3 := B2.c 3 (.int .i64 ix) rfl
  have k4 := B2.c 4 (.int .i64 ic) rfl
  go_wp2_with fail
  with_reducible refine (may_of _ HM.out).mono ?_
  rintro e w4 ⟨rfl, hb4⟩
  have hbb4 := bt hbb2 hb4
  clear k0 k1 k2 k3 k4
  clear hb2 hb4 hbb2
  go_wp2_with fail
  refine (room_any _ _).mono ?_
  rw [HR.out]
  rintro e w5 ⟨rfl, rfl⟩
  go_wp2_with fail
  with_reducible refine (open_n B d b.length b _ (hr2.below hbb4) hc2 hm2 rfl S 0 0 0 0 0 [] HS2 HV2 HD2).mono ?_
  rintro e w6 ⟨A6, c6, rfl, hm6, hc6, hcm6, hb6⟩
  have hbb6 := bal (bt hbb4 hb6) (.cells #[.int .i64 0, .int .i64 0, .int .i64 0, .int .i64 0, .int .i64 0] 25)
  clear hb6 hm6
  go_wp2_with fail
  go_ret
  exact ⟨rfl, hbb6⟩

set_option maxRecDepth 100000 in
set_option maxHeartbeats 4000000 in
theorem back_noC_g (rp rg pl ix ic : Int) (A : Option Addr) (c : Nat) (l : List UInt8) (s : Int) (B : Option Addr) (d : Nat) (b : List UInt8) (w : World) (hr : Rd w A l) (hc : l.length ≤ c) (hm : c ≤ maxLen) (hr2 : Rd w B b) (hc2 : b.length ≤ d) (hm2 : d ≤ maxLen) (h300 : l.length ≤ 300) (hb300 : b.length ≤ 300) (hm0 : mayB rp rg pl ix ic = true) (hrm : roomI s = 0) (hl0 : l.length = 0) (hg : frG b = true) : Calls Tryd.prog 4 #[.agg #[.int .i64 rp, .int .i64 rg, .int .i64 pl, .int .i64 ix, .int .i64 ic], .slice A l.length c, .int .i64 s, .slice B b.length d] w (RetV w (.bool true)) := by
  have hbm : b.length ≤ maxLen := Nat.le_trans hc2 hm2
  have hlm : l.length ≤ maxLen := Nat.le_trans hc hm
  have hE : sealE (mayB rp rg pl ix ic) l s ≠ 0 := by unfold sealE; rw [if_pos (.inr hrm)]; decide
  have HN := Lib.hid (sealL_none hE)
  obtain ⟨E, HE⟩ : ∃ E, Hid (E = sealE (mayB rp rg pl ix ic) l s) := ⟨_, Lib.hid rfl⟩
  have hEb : (E == 0) = false := by rw [beq_eq_false_iff_ne, HE.out]; exact hE
  have HM := Lib.hid hm0
  obtain ⟨R, HR⟩ : ∃ R, Hid (roomI s = R) := ⟨_, Lib.hid rfl⟩
  have hR0 : Hid (R = 0) := Lib.hid (by rw [← HR.out]; exact hrm)
  rw [hR0.out] at HR
  rw [hl0]
  clear hE hm0 hrm
  obtain ⟨r1, r2⟩ := fr_reseal hg
  have q0 : frS b = 1 := by obtain ⟨h0, h3, _⟩ := frG_parts hg; simp [frS, h0, h3, hg]
  obtain ⟨v0, V0⟩ : ∃ v, Hid (v = frF b 0 1) := ⟨_, Lib.hid rfl⟩
  obtain ⟨v1, V1⟩ : ∃ v, Hid (v = frF b 1 1) := ⟨_, Lib.hid rfl⟩
  obtain ⟨v2, V2⟩ : ∃ v, Hid (v = frF b 2 1) := ⟨_, Lib.hid rfl⟩
  obtain ⟨v3, V3⟩ : ∃ v, Hid (v = frF b 3 6) := ⟨_, Lib.hid rfl⟩
  obtain ⟨v4, V4⟩ : ∃ v, Hid (v = frF b 9 6) := ⟨_, Lib.hid rfl⟩
  obtain ⟨D2, HD2⟩ : ∃ D, Hid (frB b = D) := ⟨_, Lib.hid rfl⟩
  rw [← V0.out, ← V1.out, ← V2.out, ← V3.out, ← V4.out, HD2.out] at r1 r2
  have HV2 : Hid (frV b = .agg #[.int .i64 v0, .int .i64 v1, .int .i64 v2, .int .i64 v3, .int .i64 v4]) := Lib.hid (by unfold frV; rw [← V0.out, ← V1.out, ← V2.out, ← V3.out, ← V4.out])
  have HS2 := Lib.hid q0
  have HE2 := Lib.hid r1
  have HL2 := Lib.hid r2
  clear r1 r2 q0 hg
  go_enter Tryd.func4, Tryd.ntmps4
  go_wp2_with fail
  refine (awake_any _).mono ?_
  rintro e w1 ⟨rfl, hb1⟩
  have B1 := (Blk.new w 25 #[.int .i64 rp, .int .i64 rg, .int .i64 pl, .int .i64 ix, .int .i64 ic]).bel hb1
  have hbb1 := bac hb1
  clear hb1
  have k0 := B1.c 0 (.int .i64 rp) rfl
  have k1 := B1.c 1 (.int .i64 rg) rfl
  have k2 := B1.c 2 (.int .i64 pl) rfl
  have k3 := B1.c 3 (.int .i64 ix) rfl
  have k4 := B1.c 4 (.int .i64 ic) rfl
  go_wp2_with fail
  with_reducible refine (seal_n rp rg pl ix ic A c 0 l s _ (hr.below hbb1) hl0.symm).mono ?_
  rw [HN.out, ← HE.out]
  rintro e w2 ⟨A2, c2, rfl, hown2, hb2⟩
  have B2 := B1.bel hb2
  have hbb2 := bt hbb1 hb2
  clear k0 k1 k2 k3 k4
  have k0 := B2.c 0 (.int .i64 rp) rfl
  have k1 := B2.c 1 (.int .i64 rg) rfl
  have k2 := B2.c 2 (.int .i64 pl) rfl
  have k3 := B2.c 3 (.int .i64 ix) rfl
  have k4 := B2.c 4 (.int .i64 ic) rfl
  go_wp2_with fail
  with_reducible refine (may_of _ HM.out).mono ?_
  rintro e w4 ⟨rfl, hb4⟩
  have hbb4 := bt hbb2 hb4
  clear k0 k1 k2 k3 k4
  clear hb2 hb4 hbb2
  go_wp2_with fail
  refine (room_any _ _).mono ?_
  rw [HR.out]
  rintro e w5 ⟨rfl, rfl⟩
  go_wp2_with fail
  refine (room_any _ _).mono ?_
  rw [HR.out]
  rintro e w5 ⟨rfl, rfl⟩
  go_wp2_with fail
  with_reducible refine (open_n B d b.length b _ (hr2.below hbb4) hc2 hm2 rfl 1 v0 v1 v2 v3 v4 D2 HS2 HV2 HD2).mono ?_
  rintro e w6 ⟨A6, c6, rfl, hm6, hc6, hcm6, hb6⟩
  have r6 := hm6.1.alloc (.cells #[.int .i64 v0, .int .i64 v1, .int .i64 v2, .int .i64 v3, .int .i64 v4] 25)
  have hbb6 := bal (bt hbb4 hb6) (.cells #[.int .i64 v0, .int .i64 v1, .int .i64 v2, .int .i64 v3, .int .i64 v4] 25)
  clear hb6 hm6
  go_wp2_with fail
  with_reducible refine (seal_n v0 v1 v2 v3 v4 A6 c6 D2.length D2 _ _ r6 rfl).mono ?_
  rw [HL2.out, HE2.out]
  rintro e w7 ⟨A7, c7, rfl, hown7, hb7⟩
  have hbb7 := bt hbb6 hb7
  have rb7 := hr2.below hbb7
  clear hb7
  go_wp2_with fail
  with_reducible refine (same_self A7 B c7 d b b.length b.length _ hown7.rd rb7 hbm rfl rfl).mono ?_
  rintro e w8 ⟨rfl, hb8⟩
  go_wp2_with fail
  go_ret
  exact ⟨rfl, bt hbb7 hb8⟩

set_option maxRecDepth 100000 in
set_option maxHeartbeats 4000000 in
theorem back_noC_b (rp rg pl ix ic : Int) (A : Option Addr) (c : Nat) (l : List UInt8) (s : Int) (B : Option Addr) (d : Nat) (b : List UInt8) (w : World) (hr : Rd w A l) (hc : l.length ≤ c) (hm : c ≤ maxLen) (hr2 : Rd w B b) (hc2 : b.length ≤ d) (hm2 : d ≤ maxLen) (h300 : l.length ≤ 300) (hb300 : b.length ≤ 300) (hm0 : mayB rp rg pl ix ic = true) (hrm : roomI s = 0) (hl0 : l.length = 0) (hg : frG b = false) : Calls Tryd.prog 4 #[.agg #[.int .i64 rp, .int .i64 rg, .int .i64 pl, .int .i64 ix, .int .i64 ic], .slice A l.length c, .int .i64 s, .slice B b.length d] w (RetV w (.bool true)) := by
  have hbm : b.length ≤ maxLen := Nat.le_trans hc2 hm2
  have hlm : l.length ≤ maxLen := Nat.le_trans hc hm
  have hE : sealE (mayB rp rg pl ix ic) l s ≠ 0 := by unfold sealE; rw [if_pos (.inr hrm)]; decide
  have HN := Lib.hid (sealL_none hE)
  obtain ⟨E, HE⟩ : ∃ E, Hid (E = sealE (mayB rp rg pl ix ic) l s) := ⟨_, Lib.hid rfl⟩
  have hEb : (E == 0) = false := by rw [beq_eq_false_iff_ne, HE.out]; exact hE
  have HM := Lib.hid hm0
  obtain ⟨R, HR⟩ : ∃ R, Hid (roomI s = R) := ⟨_, Lib.hid rfl⟩
  have hR0 : Hid (R = 0) := Lib.hid (by rw [← HR.out]; exact hrm)
  rw [hR0.out] at HR
  rw [hl0]
  clear hE hm0 hrm
  obtain ⟨S, HS2⟩ : ∃ S, Hid (frS b = S) := ⟨_, Lib.hid rfl⟩
  have hSb : (S != 1) = true := by
    rw [bne_iff_ne, ← HS2.out]
    unfold frS
    split
    · decide
    · split
      · decide
      · rw [hg]; decide
  have HV2 := Lib.hid (frV_none hg).1
  have HD2 := Lib.hid (frV_none hg).2
  clear hg
  go_enter Tryd.func4, Tryd.ntmps4
  go_wp2_with fail
  refine (awake_any _).mono ?_
  rintro e w1 ⟨rfl, hb1⟩
  have B1 := (Blk.new w 25 #[.int .i64 rp, .int .i64 rg, .int .i64 pl, .int .i64 ix, .int .i64 ic]).bel hb1
  have hbb1 := bac hb1
  clear hb1
  have k0 := B1.c 0 (.int .i64 rp) rfl
  have k1 := B1.c 1 (.int .i64 rg) rfl
  have k2 := B1.c 2 (.int .i64 pl) rfl
  have k3 := B1.c 3 (.int .i64 ix) rfl
  have k4 := B1.c 4 (.int .i64 ic) rfl
  go_wp2_with fail
  with_reducible refine (seal_n rp rg pl ix ic A c 0 l s _ (hr.below hbb1) hl0.symm).mono ?_
  rw [HN.out, ← HE.out]
  rintro e w2 ⟨A2, c2, rfl, hown2, hb2⟩
  have B2 := B1.bel hb2
  have hbb2 := bt hbb1 hb2
  clear k0 k1 k2 k3 k4
  have k0 := B2.c 0 (.int .i64 rp) rfl
  have k1 := B2.c 1 (.int .i64 rg) rfl
  have k2 := B2.c 2 (.int .i64 pl) rfl
  have k3 := B2.c 3 (.int .i64 ix) rfl
  have k4 := B2.c 4 (.int .i64 ic) rfl
  go_wp2_with fail
  with_reducible refine (may_of _ HM.out).mono ?_
  rintro e w4 ⟨rfl, hb4⟩
  have hbb4 := bt hbb2 hb4
  clear k0 k1 k2 k3 k4
  clear hb2 hb4 hbb2
  go_wp2_with fail
  refine (room_any _ _).mono ?_
  rw [HR.out]
  rintro e w5 ⟨rfl, rfl⟩
  go_wp2_with fail
  refine (room_any _ _).mono ?_
  rw [HR.out]
  rintro e w5 ⟨rfl, rfl⟩
  go_wp2_with fail
  with_reducible refine (open_n B d b.length b _ (hr2.below hbb4) hc2 hm2 rfl S 0 0 0 0 0 [] HS2 HV2 HD2).mono ?_
  rintro e w6 ⟨A6, c6, rfl, hm6, hc6, hcm6, hb6⟩
  have hbb6 := bal (bt hbb4 hb6) (.cells #[.int .i64 0, .int .i64 0, .int .i64 0, .int .i64 0, .int .i64 0] 25)
  clear hb6 hm6
  go_wp2_with fail
  go_ret
  exact ⟨rfl, hbb6⟩

set_option maxRecDepth 100000 in
set_option maxHeartbeats 1000000 in
theorem frameBack_walk (rp rg pl ix ic : Int) (A : Option Addr) (c : Nat) (l : List UInt8) (s : Int) (B : Option Addr) (d : Nat) (b : List UInt8) (w : World) (b0 : -9223372036854775808 ≤ rp) (b1 : rp ≤ 9223372036854775807) (b2 : -9223372036854775808 ≤ rg) (b3 : rg ≤ 9223372036854775807)
    (b4 : -9223372036854775808 ≤ pl) (b5 : pl ≤ 9223372036854775807) (b6 : -9223372036854775808 ≤ ix) (b7 : ix ≤ 9223372036854775807) (b8 : -9223372036854775808 ≤ ic) (b9 : ic ≤ 9223372036854775807)
    (hr : Rd w A l) (hc : l.length ≤ c) (hm : c ≤ maxLen) (s0 : -9223372036854775808 ≤ s) (s1 : s ≤ 9223372036854775807) (hr2 : Rd w B b) (hc2 : b.length ≤ d) (hm2 : d ≤ maxLen) :
    Calls Tryd.prog 4 #[.agg #[.int .i64 rp, .int .i64 rg, .int .i64 pl, .int .i64 ix, .int .i64 ic], .slice A l.length c, .int .i64 s, .slice B b.length d] w (RetV w (.bool true)) := by
  by_cases h1 : 300 < l.length
  · go_enter Tryd.func4, Tryd.ntmps4
    go_wp2_with fail
    refine (awake_any _).mono ?_
    rintro e w1 ⟨rfl, hb1⟩
    go_wp2_with fail
    go_ret
    exact ⟨rfl, bac hb1⟩
  by_cases h2 : 300 < b.length
  · have g1 : decide ((300 : Int) < l.length) = false := decide_eq_false (by omega)
    go_enter Tryd.func4, Tryd.ntmps4
    go_wp2_with fail
    refine (awake_any _).mono ?_
    rintro e w1 ⟨rfl, hb1⟩
    go_wp2_with fail
    go_ret
    exact ⟨rfl, bac hb1⟩
  have h300 : l.length ≤ 300 := by omega
  have hb300 : b.length ≤ 300 := by omega
  cases hm0 : mayB rp rg pl ix ic
  case false =>
    cases hg : frG b
    · exact back_noA_b rp rg pl ix ic A c l s B d b w hr hc hm hr2 hc2 hm2 h300 hb300 hm0 hg
    · exact back_noA_g rp rg pl ix ic A c l s B d b w hr hc hm hr2 hc2 hm2 h300 hb300 hm0 hg
  by_cases hrm : roomI s < l.length
  case pos =>
    cases hg : frG b
    · exact back_noB_b rp rg pl ix ic A c l s B d b w hr hc hm hr2 hc2 hm2 h300 hb300 hm0 hrm hg
    · exact back_noB_g rp rg pl ix ic A c l s B d b w hr hc hm hr2 hc2 hm2 h300 hb300 hm0 hrm hg
  by_cases hr0 : roomI s = 0
  case pos =>
    have hl0 : l.length = 0 := by omega
    cases hg : frG b
    · exact back_noC_b rp rg pl ix ic A c l s B d b w hr hc hm hr2 hc2 hm2 h300 hb300 hm0 hr0 hl0 hg
    · exact back_noC_g rp rg pl ix ic A c l s B d b w hr hc hm hr2 hc2 hm2 h300 hb300 hm0 hr0 hl0 hg
  rcases roomI_cases hr0 with ⟨rfl, h3⟩ | ⟨rfl, h3⟩
  · rw [h3] at hrm
    have h43 : l.length ≤ 43 := by omega
    cases hg : frG b
    · exact back_yes1_b rp rg pl ix ic A c l B d b w hr hc hm hr2 hc2 hm2 h300 hb300 h43 hm0 hg
    · exact back_yes1_g rp rg pl ix ic A c l B d b w hr hc hm hr2 hc2 hm2 h300 hb300 h43 hm0 hg
  · rw [h3] at hrm
    have h43 : l.length ≤ 88 := by omega
    cases hg : frG b
    · exact back_yes2_b rp rg pl ix ic A c l B d b w hr hc hm hr2 hc2 hm2 h300 hb300 h43 hm0 hg
    · exact back_yes2_g rp rg pl ix ic A c l B d b w hr hc hm hr2 hc2 hm2 h300 hb300 h43 hm0 hg
end Go.Proofs.YtahfippapknolaaDoor
