/-
  THE WALK OF THE LAW FrameCut.
-/
import Derived.Test.YtahfippapknolaaDoorFrameF
import Derived.Test.YtahfippapknolaaDoorTagD
namespace Go.Proofs.YtahfippapknolaaDoor
open Go.RowKit
set_option linter.unusedVariables false

theorem frS_len {l : List UInt8} (h1 : l.length ≠ 64) (h2 : l.length ≠ 128) : frS l = 2 := by
  have : okLen l = false := by simp [okLen, h1, h2]
  simp [frS, this]
theorem may_of {rp rg pl ix ic : Int} {b : Bool} (w : World) (hm : mayB rp rg pl ix ic = b) : Calls Tryd.prog 17 #[.agg #[.int .i64 rp, .int .i64 rg, .int .i64 pl, .int .i64 ix, .int .i64 ic]] w (RetV w (.bool b)) := by
  subst hm
  exact may_any rp rg pl ix ic w

set_option maxHeartbeats 2000000 in
theorem frameCut_walk (rp rg pl ix ic : Int) (A : Option Addr) (c : Nat) (l : List UInt8) (ms : Int) (B : Option Addr) (d : Nat) (bh : List UInt8) (w : World) (b0 : -9223372036854775808 ≤ rp) (b1 : rp ≤ 9223372036854775807) (b2 : -9223372036854775808 ≤ rg) (b3 : rg ≤ 9223372036854775807)
    (b4 : -9223372036854775808 ≤ pl) (b5 : pl ≤ 9223372036854775807) (b6 : -9223372036854775808 ≤ ix) (b7 : ix ≤ 9223372036854775807) (b8 : -9223372036854775808 ≤ ic) (b9 : ic ≤ 9223372036854775807)
    (hr : Rd w A l) (hc : l.length ≤ c) (hm : c ≤ maxLen) (s0 : -9223372036854775808 ≤ ms) (s1 : ms ≤ 9223372036854775807) (hr2 : Rd w B bh) (hc2 : bh.length ≤ d) (hm2 : d ≤ maxLen) :
    Calls Tryd.prog 7 #[.agg #[.int .i64 rp, .int .i64 rg, .int .i64 pl, .int .i64 ix, .int .i64 ic], .slice A l.length c, .int .i64 ms, .slice B bh.length d] w (RetV w (.bool true)) := by
  clear b0 b1 b2 b3 b4 b5 b6 b7 b8 b9
  by_cases h1 : 43 < l.length
  · go_enter Tryd.func7, Tryd.ntmps7
    go_wp2_with fail
    refine (awake_any _).mono ?_
    rintro e w1 ⟨rfl, hb1⟩
    go_wp2_with fail
    go_ret
    exact ⟨rfl, bac hb1⟩
  have g1 : decide ((43 : Int) < l.length) = false := decide_eq_false (by omega)
  by_cases h2 : 63 < bh.length
  · go_enter Tryd.func7, Tryd.ntmps7
    go_wp2_with fail
    refine (awake_any _).mono ?_
    rintro e w1 ⟨rfl, hb1⟩
    go_wp2_with fail
    go_ret
    exact ⟨rfl, bac hb1⟩
  have g2 : decide ((63 : Int) < bh.length) = false := decide_eq_false (by omega)
  by_cases hE : sealE (mayB rp rg pl ix ic) l (two1 false) = 0
  case neg =>
    have hmay : mayB rp rg pl ix ic = false := by
      rcases sealE_not hE (.inl rfl) with h | h
      · exact h
      · simp [two1] at h; omega
    have HM := Lib.hid hmay
    clear hmay h1 h2
    go_enter Tryd.func7, Tryd.ntmps7
    go_wp2_with fail
    refine (awake_any _).mono ?_
    rintro e w1 ⟨rfl, hb1⟩
    have B1 := (Blk.new w 25 #[.int .i64 rp, .int .i64 rg, .int .i64 pl, .int .i64 ix, .int .i64 ic]).bel hb1
    have hbb1 := bac hb1
    have k0 := B1.c 0 (.int .i64 rp) rfl
    have k1 := B1.c 1 (.int .i64 rg) rfl
    have k2 := B1.c 2 (.int .i64 pl) rfl
    have k3 := B1.c 3 (.int .i64 ix) rfl
    have k4 := B1.c 4 (.int .i64 ic) rfl
    go_wp2_with fail
    with_reducible refine (sealed_no rp rg pl ix ic A c l false _ (hr.below hbb1) hE).mono ?_
    rintro e w2 ⟨A2, c2, rfl, hown2, hb2⟩
    have B2 := B1.bel hb2
    have hbb2 := bt hbb1 hb2
    clear k0 k1 k2 k3 k4
    have k0 := B2.c 0 (.int .i64 rp) rfl
    have k1 := B2.c 1 (.int .i64 rg) rfl
    have k2 := B2.c 2 (.int .i64 pl) rfl
    have k3 := B2.c 3 (.int .i64 ix) rfl
    have k4 := B2.c 4 (.int .i64 ic) rfl
    go_wp2_with fail
    with_reducible refine (may_of _ HM.out).mono ?_
    rintro e w3 ⟨rfl, hb3⟩
    go_wp2_with fail
    go_ret
    exact ⟨rfl, bt hbb2 hb3⟩
  obtain ⟨L, HL⟩ : ∃ L, Hid (L = sealL rp rg pl ix ic l (two1 false)) := ⟨_, Lib.hid rfl⟩
  have hl64 : L.length = 64 := by
    have := (sealL_len hE).1
    rw [← HL.out] at this
    simp [two1] at this
    omega
  have hg : frG L = true := by
    obtain ⟨hm0, ⟨h3, h4, h5⟩ | ⟨h3, _⟩⟩ := sealL_some hE
    · rw [HL.out, h5]
      exact (frm_good hm0 (.inl ⟨rfl, h4⟩)).2.1
    · simp [two1] at h3
  obtain ⟨k, hk, hk64⟩ := u64_tmod ms 64 (by omega)
  have hk64' : k < 64 := by omega
  have hS1 : frS (L.take (63 - k)) = 2 := frS_len (by simp; omega) (by simp; omega)
  obtain ⟨S, HS⟩ : ∃ S, Hid (frS (L ++ bh) = S) := ⟨_, Lib.hid rfl⟩
  have hSb : (S == 1) = ((bh.length : Int) == 0) := by
    rw [← HS.out, Bool.eq_iff_iff, beq_iff_eq, beq_iff_eq]
    constructor
    · intro h
      by_cases hb : bh.length = 0
      · omega
      · rw [frS_len (by simp; omega) (by simp; omega)] at h
        omega
    · intro h
      have : bh = [] := List.eq_nil_of_length_eq_zero (by omega)
      rw [this, List.append_nil]
      obtain ⟨h0, h3, _⟩ := frG_parts hg
      simp [frS, h0, h3, hg]
  obtain ⟨x0, x1, x2, x3, x4, HV1⟩ := frV_form (L.take (63 - k))
  obtain ⟨y0, y1, y2, y3, y4, HV2⟩ := frV_form (L ++ bh)
  obtain ⟨D1, HD1⟩ : ∃ D, Hid (frB (L.take (63 - k)) = D) := ⟨_, Lib.hid rfl⟩
  obtain ⟨D2, HD2⟩ : ∃ D, Hid (frB (L ++ bh) = D) := ⟨_, Lib.hid rfl⟩
  have HS1 := Lib.hid hS1
  have HL64 := Lib.hid hl64
  have ht : Hid (64 - (1 + k) = (L.take (63 - k)).length) := Lib.hid (by simp; omega)
  have ht2 : (L.take (63 - k)).length ≤ 64 := by simp; omega
  have hfin : ((S == 1) == ((bh.length : Int) == 0)) = true := by rw [hSb]; simp
  have HFIN := Lib.hid hfin
  have hLm : L.length ≤ 140737488355328 := by omega
  have hLb : L.length + bh.length ≤ 140737488355328 := by omega
  have hk2 : (k : Int) ≤ 63 := by omega
  clear hfin hSb hS1 hg hl64 h1 h2 s0 s1
  go_enter Tryd.func7, Tryd.ntmps7
  go_wp2_with fail
  refine (awake_any _).mono ?_
  rintro e w1 ⟨rfl, hb1⟩
  have B1 := (Blk.new w 25 #[.int .i64 rp, .int .i64 rg, .int .i64 pl, .int .i64 ix, .int .i64 ic]).bel hb1
  have hbb1 := bac hb1
  have k0 := B1.c 0 (.int .i64 rp) rfl
  have k1 := B1.c 1 (.int .i64 rg) rfl
  have k2 := B1.c 2 (.int .i64 pl) rfl
  have k3 := B1.c 3 (.int .i64 ix) rfl
  have k4 := B1.c 4 (.int .i64 ic) rfl
  go_wp2_with fail
  with_reducible refine (sealed_yes rp rg pl ix ic A c l false _ (hr.below hbb1) hE).mono ?_
  rw [← HL.out]
  rintro e w2 ⟨A2, c2, rfl, hown2, hb2⟩
  have hbb2 := bt hbb1 hb2
  have hcaps := hown2.caps
  rw [HL64.out] at hcaps ⊢
  obtain ⟨hcap1, hcap2⟩ := hcaps
  have hcap2' : c2 ≤ 9223372036854775807 := hcap2
  clear k0 k1 k2 k3 k4 hb1 hb2
  go_wp2_with fail
  with_reducible refine (open_n A2 c2 _ (L.take (63 - k)) _ (hown2.rd.take _) (Nat.le_trans ht2 hcap1) hcap2 ht.out 2 x0 x1 x2 x3 x4 D1 HS1 HV1 HD1).mono ?_
  rintro e w3 ⟨A3, c3, rfl, _, _, _, hb3⟩
  have hbb3 := bt hbb2 hb3
  have ra := ((hown2.rd.below hb3).alloc (.cells #[.int .i64 x0, .int .i64 x1, .int .i64 x2, .int .i64 x3, .int .i64 x4] 25))
  have hbb3' := bal hbb3 (.cells #[.int .i64 x0, .int .i64 x1, .int .i64 x2, .int .i64 x3, .int .i64 x4] 25)
  go_wp2_with fail
  with_reducible refine (copy_n A2 c2 L 64 _ ra hLm HL64.out.symm).mono ?_
  rintro e w4 ⟨A4, c4, rfl, hown4, hb4⟩
  have hbb4 := bt hbb3' hb4
  have rbh := hr2.below hbb4
  have hz4 := hb4.size
  clear ra hb4 hbb3 hb3
  go_wp2_with (at_builtin; refine wpList_append_bytes _ rfl _ _ rfl _ A4 _ c4 L rfl rfl hown4 B _ d bh rfl rfl rbh hLb hz4 ?_; intro A5 c5 w5 hown5 hb5 _)
  have hbb5 : Below w.heap.size w w5 := hbb4.trans (hb5.mono (by have := hbb3'.size; exact this))
  have hcaps5 := hown5.caps
  rw [List.length_append] at hcaps5
  with_reducible refine (open_n A5 c5 _ (L ++ bh) _ hown5.rd (by rw [List.length_append]; exact hcaps5.1) hcaps5.2 ?_ S y0 y1 y2 y3 y4 D2 HS HV2 HD2).mono ?_
  · rw [List.length_append]
  rintro e w6 ⟨A6, c6, rfl, _, _, _, hb6⟩
  have hbb6 := bt hbb5 hb6
  have hfin := HFIN.out
  go_wp2_with fail
  go_ret
  exact ⟨rfl, bal hbb6 _⟩
end Go.Proofs.YtahfippapknolaaDoor
