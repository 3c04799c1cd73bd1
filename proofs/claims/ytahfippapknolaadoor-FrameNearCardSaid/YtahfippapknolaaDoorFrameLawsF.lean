/-
  THE WALK OF THE LAW FrameNear.
-/
import Derived.Test.YtahfippapknolaaDoorFrameLawsE
namespace Go.Proofs.YtahfippapknolaaDoor
open Go.RowKit
set_option linter.unusedVariables false

set_option maxRecDepth 100000 in
set_option maxHeartbeats 2000000 in
theorem frameNear_walk (rp rg pl ix ic : Int) (A : Option Addr) (c : Nat) (l : List UInt8) (two : Bool) (fm : Nat) (wh : Nat) (w : World) (b0 : -9223372036854775808 ≤ rp) (b1 : rp ≤ 9223372036854775807) (b2 : -9223372036854775808 ≤ rg) (b3 : rg ≤ 9223372036854775807)
    (b4 : -9223372036854775808 ≤ pl) (b5 : pl ≤ 9223372036854775807) (b6 : -9223372036854775808 ≤ ix) (b7 : ix ≤ 9223372036854775807) (b8 : -9223372036854775808 ≤ ic) (b9 : ic ≤ 9223372036854775807)
    (hr : Rd w A l) (hc : l.length ≤ c) (hm : c ≤ maxLen) (hfm : fm < 2 ^ 16) (hwh : wh < 2 ^ 32) :
    Calls Tryd.prog 6 #[.agg #[.int .i64 rp, .int .i64 rg, .int .i64 pl, .int .i64 ix, .int .i64 ic], .slice A l.length c, .bool two, .int .u16 fm, .int .u32 wh] w (RetV w (.bool true)) := by
  clear b0 b1 b2 b3 b4 b5 b6 b7 b8 b9
  by_cases h1 : 300 < l.length
  · go_enter Tryd.func6, Tryd.ntmps6
    go_wp2_with fail
    refine (awake_any _).mono ?_
    rintro e w1 ⟨rfl, hb1⟩
    go_wp2_with fail
    go_ret
    exact ⟨rfl, bac hb1⟩
  have h300 : decide ((300 : Int) < l.length) = false := decide_eq_false (by omega)
  by_cases h3 : wh = 0
  · have hz : ((wh : Int) == 0) = true := by rw [beq_iff_eq]; omega
    clear h3 h1
    go_enter Tryd.func6, Tryd.ntmps6
    go_wp2_with fail
    refine (awake_any _).mono ?_
    rintro e w1 ⟨rfl, hb1⟩
    go_wp2_with fail
    go_ret
    exact ⟨rfl, bac hb1⟩
  have hz : ((wh : Int) == 0) = false := by rw [beq_eq_false_iff_ne]; omega
  have H3 := Lib.hid h3
  by_cases hE : sealE (mayB rp rg pl ix ic) l (two1 two) = 0
  case neg =>
    have hfar := sealE_far hE
    cases hmay : mayB rp rg pl ix ic
    all_goals
      have HM := Lib.hid hmay
      have g43 : mayB rp rg pl ix ic = true → (43 : Int) < l.length := fun h => by
        rcases hfar with h2 | h2
        · rw [h2] at h; cases h
        · omega
      rw [hmay] at g43
      simp only [reduceCtorEq, false_implies, forall_const] at g43
      clear hmay h1 hfar h3
      go_enter Tryd.func6, Tryd.ntmps6
      go_wp2_with fail
      refine (awake_any _).mono ?_
      rintro e w1 ⟨rfl, hb1⟩
      have B1 := (Blk.new w 25 #[.int .i64 rp, .int .i64 rg, .int .i64 pl, .int .i64 ix, .int .i64 ic]).bel hb1
      have hbb1 := bac hb1
      have k0 := B1.c 0 (.int .i64 rp) rfl
      have k1 := B1.c 1 (.int .i64 rg) rfl
      have k2 := B1.c 2 (.int .i64 pl) rfl
      have k3 := B1.c 3 (.int .i64 ix) rfl
      have k4 := B1.c 4 (.int .i64 ic) rfl
      go_wp2_with fail
      with_reducible refine (sealed_no rp rg pl ix ic A c l two _ (hr.below hbb1) hE).mono ?_
      rintro e w2 ⟨A2, c2, rfl, hown2, hb2⟩
      have B2 := B1.bel hb2
      have hbb2 := bt hbb1 hb2
      clear k0 k1 k2 k3 k4
      have k0 := B2.c 0 (.int .i64 rp) rfl
      have k1 := B2.c 1 (.int .i64 rg) rfl
      have k2 := B2.c 2 (.int .i64 pl) rfl
      have k3 := B2.c 3 (.int .i64 ix) rfl
      have k4 := B2.c 4 (.int .i64 ic) rfl
      go_wp2_with fail
      with_reducible refine (may_of _ HM.out).mono ?_
      rintro e w3 ⟨rfl, hb3⟩
      go_wp2_with fail
      go_ret
      exact ⟨rfl, bt hbb2 hb3⟩
  obtain ⟨L, HL⟩ : ∃ L, Hid (L = sealL rp rg pl ix ic l (two1 two)) := ⟨_, Lib.hid rfl⟩
  have hgood := sealL_good hE
  rw [← HL.out] at hgood
  obtain ⟨hg, hN⟩ := hgood
  obtain ⟨N, HN⟩ : ∃ N, Hid (L.length = N) := ⟨_, Lib.hid rfl⟩
  rw [HN.out] at hN
  have hN1 : 64 ≤ N := by omega
  have hN2 : N ≤ 128 := by omega
  have HG := Lib.hid hg
  obtain ⟨fr, hfr, hfr2⟩ : ∃ p : Nat, ((fm : Nat) : Int) % (8 * (N : Int) - 31) = (p : Int) ∧ (p : Int) < 8 * (N : Int) - 31 :=
    ⟨((fm : Int) % (8 * (N : Int) - 31)).toNat, by have := Int.emod_nonneg (fm : Int) (show 8 * (N : Int) - 31 ≠ 0 by omega); omega, by
      have := Int.emod_nonneg (fm : Int) (show 8 * (N : Int) - 31 ≠ 0 by omega)
      have := Int.emod_lt_of_pos (fm : Int) (show 0 < 8 * (N : Int) - 31 by omega)
      omega⟩
  have hfl : fr + 31 < 8 * N := by omega
  have hwh' : wh < 4294967296 := hwh
  clear hN h1 hg h3 hwh
  go_enter Tryd.func6, Tryd.ntmps6
  go_wp2_with fail
  refine (awake_any _).mono ?_
  rintro e w1 ⟨rfl, hb1⟩
  have B1 := (Blk.new w 25 #[.int .i64 rp, .int .i64 rg, .int .i64 pl, .int .i64 ix, .int .i64 ic]).bel hb1
  have hbb1 := bac hb1
  have k0 := B1.c 0 (.int .i64 rp) rfl
  have k1 := B1.c 1 (.int .i64 rg) rfl
  have k2 := B1.c 2 (.int .i64 pl) rfl
  have k3 := B1.c 3 (.int .i64 ix) rfl
  have k4 := B1.c 4 (.int .i64 ic) rfl
  clear hb1
  go_wp2_with fail
  with_reducible refine (sealed_yes rp rg pl ix ic A c l two _ (hr.below hbb1) hE).mono ?_
  rw [← HL.out]
  rintro e w2 ⟨A2, c2, rfl, hown2, hb2⟩
  rcases hown2.form with ⟨_, _, e⟩ | ⟨g, rfl, hg2, _, hcap2, hcap2'⟩
  · have := HN.out
    rw [e] at this
    simp at this
    omega
  rw [HN.out]
  clear k0 k1 k2 k3 k4
  have hz1 := hbb1.size
  go_wp2_with fail
  go_loopw [14] (fun n wr => ∃ (m : Nat) (C : List UInt8), m ≤ 32 ∧ n = .int .i64 m ∧ Hid (C.length = N) ∧ Hid (sum C = sum L ^^^ stn (8 * N - fr - 32) (stn 32 (wh % 2 ^ m))) ∧ Own wr w1.heap.size (some ⟨g, 0, none⟩) c2 C ∧ Below w1.heap.size w1 wr) (fun n _ => 32 - (intOf n).toNat)
  case atStart => exact ⟨0, L, by omega, rfl, HN, Lib.hid (by rw [Nat.pow_zero, Nat.mod_one, stn_zero, stn_zero, Nat.xor_zero]), hown2, hb2⟩
  case round =>
    obtain ⟨m, C, hm3, rfl, HCl, HC, hown, hb⟩ := hrel
    by_cases hlt : m < 32
    · obtain ⟨q, Hq⟩ : ∃ q, Hid (q = wh / 2 ^ m % 2) := ⟨_, Lib.hid rfl⟩
      have ea : bits BinOp.and IntKind.u32 ((wh : Int) / 2 ^ m) 1 = (q : Int) := by
        have h5 : (wh : Int) / 2 ^ m = ((wh / 2 ^ m : Nat) : Int) := by simp
        have h6 : wh / 2 ^ m ≤ wh := Nat.div_le_self _ _
        rw [h5, show (1 : Int) = ((1 : Nat) : Int) from rfl, u32_and _ _ (by omega) (by omega), show (1 : Nat) = 2 ^ 1 - 1 from rfl, Nat.and_two_pow_sub_one_eq_mod, Hq.out]
      have Htb : Hid (wh.testBit m = decide (q = 1)) := Lib.hid (by rw [Nat.testBit_eq_decide_div_mod_eq, Hq.out])
      have HM : Hid (wh % 2 ^ (m + 1) = (wh % 2 ^ m) ^^^ (if q = 1 then 2 ^ m else 0)) := Lib.hid (by
        rw [mod_succ_bit, Htb.out]
        simp)
      by_cases hq1 : q = 1
      · have hqb : ((q : Int) == 1) = true := by rw [beq_iff_eq]; omega
        have hpl : fr + m < 8 * N := by omega
        have hpC : (fr + m) / 8 < C.length := by rw [HCl.out]; omega
        have hcell := hown.cell ((fr + m) / 8) hpC
        have hfz := hown.frozen ((fr + m) / 8)
        obtain ⟨y, Hy⟩ : ∃ y, Hid (y = C[(fr + m) / 8].toNat) := ⟨_, Lib.hid rfl⟩
        have hy : y < 256 := by rw [Hy.out]; exact C[(fr + m) / 8].toNat_lt
        rw [← Hy.out] at hcell
        have ex : bits BinOp.xor IntKind.u8 (y : Int) (2 ^ ((fr + m) % 8) % 256) = ((C[(fr + m) / 8] ^^^ UInt8.ofNat (2 ^ ((fr + m) % 8))).toNat : Int) := by rw [Hy.out]; exact toggle_val C (fr + m) hpC
        obtain ⟨v, Hv⟩ : ∃ v : UInt8, Hid (v = C[(fr + m) / 8] ^^^ UInt8.ofNat (2 ^ ((fr + m) % 8))) := ⟨_, Lib.hid rfl⟩
        rw [← Hv.out] at ex
        have own2 : Own (wr.setCell ⟨g, (fr + m) / 8, none⟩ (.int .u8 (v.toNat : Int))) w1.heap.size (some ⟨g, 0, none⟩) c2 (toggle C (fr + m)) := by
          rw [toggle_set C (fr + m) hpC, ← Hv.out]
          exact hown.set ((fr + m) / 8) v
        have hb3 := hb.setCell (p := ⟨g, (fr + m) / 8, none⟩) hg2 (.int .u8 (v.toNat : Int))
        have HCl2 : Hid ((toggle C (fr + m)).length = N) := Lib.hid (by rw [toggle_length, HCl.out])
        have HC2 : Hid (sum (toggle C (fr + m)) = sum L ^^^ stn (8 * N - fr - 32) (stn 32 (wh % 2 ^ (m + 1)))) := Lib.hid (by
          rw [sum_toggle C (fr + m) (by rw [HCl.out]; exact hpl), HC.out, HM.out, if_pos hq1, stn_xor, stn_xor, Nat.xor_assoc, HCl.out, pow_stn (by omega)]
          have h8 : stn (8 * N - fr - 32) (stn (32 - m) 1) = stn (8 * N - (fr + m)) 1 := by
            rw [← stn_add, show 32 - m + (8 * N - fr - 32) = 8 * N - (fr + m) by omega]
          rw [h8])
        clear hq1
        go_wp2_with fail
        go_roundw
        case measure => simp [intOf]; omega
        case rel => exact ⟨m + 1, toggle C (fr + m), by omega, by go_num, HCl2, HC2, own2, hb3⟩
      · have hqb : ((q : Int) == 1) = false := by rw [beq_eq_false_iff_ne]; omega
        have HC2 : Hid (sum C = sum L ^^^ stn (8 * N - fr - 32) (stn 32 (wh % 2 ^ (m + 1)))) := Lib.hid (by
          rw [HM.out, if_neg hq1, Nat.xor_zero, HC.out])
        clear hq1
        go_wp2_with fail
        go_roundw
        case measure => simp [intOf]; omega
        case rel => exact ⟨m + 1, C, by omega, by go_num, HCl, HC2, hown, hb⟩
    · obtain rfl : m = 32 := by omega
      have hng : frG C = false := by
        cases e : frG C
        · rfl
        exfalso
        have e2 : sum C = sum L := (frG_sum e).trans (frG_sum HG.out).symm
        have h5 := HC.out
        rw [e2, Nat.mod_eq_of_lt (show wh < 2 ^ 32 from hwh')] at h5
        have h6 : stn (8 * N - fr - 32) (stn 32 wh) = 0 := by
          have := congrArg (fun x => sum L ^^^ x) h5
          simp only [Nat.xor_self, xor_cancel] at this
          exact this.symm
        rw [← stn_add] at h6
        exact H3.out (stn_eq_zero hwh' h6)
      obtain ⟨S, HS⟩ : ∃ S, Hid (frS C = S) := ⟨_, Lib.hid rfl⟩
      have hSb : (S != 1) = true := by
        rw [bne_iff_ne, ← HS.out]
        intro h
        rw [(frS_good C).1 h] at hng
        cases hng
      have HV := Lib.hid (frV_none hng).1
      have HD := Lib.hid (frV_none hng).2
      have hC3 : C.length ≤ c2 := by rw [HCl.out, ← HN.out]; exact hcap2
      clear hng hlt
      go_wp2_with fail
      with_reducible refine (open_n (some ⟨g, 0, none⟩) c2 N C _ hown.rd hC3 hcap2' HCl.out.symm S 0 0 0 0 0 [] HS HV HD).mono ?_
      rintro e w5 ⟨A5, c5, rfl, _, _, _, hb5⟩
      have hbb5 := bal (bt hbb1 (bt hb hb5)) (.cells #[.int .i64 0, .int .i64 0, .int .i64 0, .int .i64 0, .int .i64 0] 25)
      go_wp2_with fail
      go_ret
      exact ⟨rfl, hbb5⟩
end Go.Proofs.YtahfippapknolaaDoor
