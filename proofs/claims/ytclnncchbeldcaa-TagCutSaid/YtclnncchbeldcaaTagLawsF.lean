/-
  THE WALK OF THE LAW TagCut.
-/
import Derived.Test.YtclnncchbeldcaaTagLawsC
namespace Go.Proofs.Ytclnncchbeldcaa
open Go.RowKit
set_option linter.unusedVariables false

theorem u64_tmod (x : Int) (m : Int) (hm : 0 < m) : ∃ k : Nat, (IntKind.u64.wrap x).tmod m = k ∧ (k : Int) < m := by
  have h0 : 0 ≤ IntKind.u64.wrap x := by
    simp only [IntKind.wrap_u64]
    omega
  rw [Int.tmod_eq_emod_of_nonneg h0]
  have h1 := Int.emod_nonneg (IntKind.u64.wrap x) (show m ≠ 0 by omega)
  have h2 := Int.emod_lt_of_pos (IntKind.u64.wrap x) hm
  exact ⟨(IntKind.u64.wrap x % m).toNat, by omega, by omega⟩
theorem tagB_len {l : List UInt8} (h : l.length ≠ 15) : tagB l = false := by unfold tagB; rw [decide_eq_false h]; rfl
theorem parse_n (A : Option Addr) (c : Nat) (l : List UInt8) (n : Nat) (w : World) (hr : Rd w A l) (hc : l.length ≤ c) (hm : c ≤ maxLen) (hn : n = l.length) :
    Calls Try.prog 23 #[.slice A n c] w (RetV w (.tuple #[tagW l, .int .i64 (tagP l)])) := by
  subst hn
  exact parse_any A c l w hr hc hm

theorem copy_n (A : Option Addr) (c : Nat) (l : List UInt8) (n : Nat) (w : World) (hl : Rd w A l) (hc : l.length ≤ 140737488355328) (hn : n = l.length) :
    Calls Try.prog 21 #[.slice A n c] w (RetB w l) := by
  subst hn
  exact copy_any A c l w hl hc
theorem bal {w a : World} (h : Below w.heap.size w a) (o : Obj) : Below w.heap.size w (a.alloc o) := h.alloc h.size o

set_option maxHeartbeats 2000000 in
theorem tagCut_walk (rp rg pl ix ic : Int) (missing : Int) (A : Option Addr) (c : Nat) (l : List UInt8) (w : World) (b0 : -9223372036854775808 ≤ rp) (b1 : rp ≤ 9223372036854775807) (b2 : -9223372036854775808 ≤ rg) (b3 : rg ≤ 9223372036854775807)
    (b4 : -9223372036854775808 ≤ pl) (b5 : pl ≤ 9223372036854775807) (b6 : -9223372036854775808 ≤ ix) (b7 : ix ≤ 9223372036854775807) (b8 : -9223372036854775808 ≤ ic) (b9 : ic ≤ 9223372036854775807) (m0 : -9223372036854775808 ≤ missing) (m1 : missing ≤ 9223372036854775807)
    (hr : Rd w A l) (hc : l.length ≤ c) (hm : c ≤ maxLen) :
    Calls Try.prog 8 #[.agg #[.int .i64 rp, .int .i64 rg, .int .i64 pl, .int .i64 ix, .int .i64 ic], .int .i64 missing, .slice A l.length c] w (RetV w (.bool true)) := by
  clear b0 b1 b2 b3 b4 b5 b6 b7 b8 b9
  obtain ⟨L, HL⟩ : ∃ L, Hid (L = tagL rp rg pl ix ic) := ⟨_, Lib.hid rfl⟩
  obtain ⟨E, HE⟩ : ∃ L, Hid (L = tagE rp rg pl ix ic) := ⟨_, Lib.hid rfl⟩
  by_cases hcond : mayB rp rg pl ix ic = false ∨ 50 < l.length
  · have key : (E != 0) = true ∨ ((E != 0) = false ∧ (50 : Int) < l.length) := by
      rcases hcond with h | h
      · exact .inl (by rw [HE.out]; simp [tagE, h])
      · cases hm0 : mayB rp rg pl ix ic
        · exact .inl (by rw [HE.out]; simp [tagE, hm0])
        · exact .inr ⟨by rw [HE.out]; simp [tagE, hm0], by omega⟩
    clear hcond
    rcases key with k1 | ⟨k1, k2⟩
    all_goals
      go_enter Try.func8, Try.ntmps8
      go_wp2_with fail
      refine (awake_any _).mono ?_
      rintro e w1 ⟨rfl, hb1⟩
      have B1 := (Blk.new w 29 #[.int .i64 rp, .int .i64 rg, .int .i64 pl, .int .i64 ix, .int .i64 ic]).bel hb1
      have hbb : Below w.heap.size w w1 := ((Below.refl _ _).alloc (Nat.le_refl _) _).trans (hb1.mono (by simp))
      have q0 := B1.c 0 (.int .i64 rp) rfl
      have q1 := B1.c 1 (.int .i64 rg) rfl
      have q2 := B1.c 2 (.int .i64 pl) rfl
      have q3 := B1.c 3 (.int .i64 ix) rfl
      have q4 := B1.c 4 (.int .i64 ic) rfl
      clear hb1
      go_wp2_with fail
      refine (print_any _ _ _ _ _ _).mono ?_
      rw [← HL.out, ← HE.out]
      rintro e w2 ⟨A2, c2, rfl, hown2, hb2⟩
      go_wp2_with fail
      go_ret
      exact ⟨rfl, bt hbb hb2⟩
  · have hM : mayB rp rg pl ix ic = true := by
      cases h : mayB rp rg pl ix ic
      · exact absurd (.inl h) hcond
      · rfl
    have hl50 : l.length ≤ 50 := by omega
    have hL15 : Hid (L.length = 15) := Lib.hid (by rw [HL.out, tagL_length, hM]; rfl)
    have hTL : Hid (tagB L = true) := Lib.hid (by rw [HL.out]; exact (tag_parse_print hM).1)
    have HE0 : Hid (E = 0) := Lib.hid (by rw [HE.out]; simp [tagE, hM])
    obtain ⟨k, hk, hkl⟩ := u64_tmod missing 15 (by omega)
    have HP1 : Hid (tagW (L.take (14 - k)) = .agg #[.int .i64 0, .int .i64 0, .int .i64 0, .int .i64 0, .int .i64 0] ∧ tagP (L.take (14 - k)) = 30) := Lib.hid (tagW_none (l := L.take (14 - k)) (tagB_len (by rw [List.length_take, hL15.out]; omega)))
    clear hcond hM
    go_enter Try.func8, Try.ntmps8
    go_wp2_with fail
    refine (awake_any _).mono ?_
    rintro e w1 ⟨rfl, hb1⟩
    have B1 := (Blk.new w 29 #[.int .i64 rp, .int .i64 rg, .int .i64 pl, .int .i64 ix, .int .i64 ic]).bel hb1
    have hbb : Below w.heap.size w w1 := ((Below.refl _ _).alloc (Nat.le_refl _) _).trans (hb1.mono (by simp))
    have q0 := B1.c 0 (.int .i64 rp) rfl
    have q1 := B1.c 1 (.int .i64 rg) rfl
    have q2 := B1.c 2 (.int .i64 pl) rfl
    have q3 := B1.c 3 (.int .i64 ix) rfl
    have q4 := B1.c 4 (.int .i64 ic) rfl
    clear hb1
    go_wp2_with fail
    refine (print_any _ _ _ _ _ _).mono ?_
    rw [← HL.out, ← HE.out, HE0.out]
    rintro e w2 ⟨A2, c2, rfl, hown2, hb2⟩
    have hbb2 := bt hbb hb2
    obtain ⟨hcl2, hcm2⟩ := hown2.caps
    rw [hL15.out] at hcl2 ⊢
    have hcm2' := hcm2
    unfold maxLen at hcm2'
    clear hb2 hbb q0 q1 q2 q3 q4 B1
    go_wp2_with fail
    have hln : 15 - (1 + k) = (L.take (14 - k)).length := by rw [List.length_take, hL15.out]; omega
    refine (parse_n A2 c2 (L.take (14 - k)) _ _ (hown2.rd.take _) (by rw [← hln]; omega) hcm2 hln).mono ?_
    rw [HP1.out.1, HP1.out.2]
    rintro e w3 ⟨rfl, hb3⟩
    have hbb3 := bt hbb2 hb3
    have ho3 := hown2.below hb3
    clear hb3 hown2 hln
    go_wp2_with fail
    refine (copy_n A2 c2 L 15 _ (ho3.rd.alloc _) (by rw [hL15.out]; omega) hL15.out.symm).mono ?_
    rintro e w4 ⟨A4, c4, rfl, hown4, hb4⟩
    have hbb4 := bt (bal hbb3 _) hb4
    have hz4 := hbb4.size
    have hzb : w.heap.size ≤ (World.alloc w3 (.cells #[.int .i64 0, .int .i64 0, .int .i64 0, .int .i64 0, .int .i64 0] 29)).heap.size := (bal hbb3 _).size
    have hlA : L.length + l.length ≤ 140737488355328 := by rw [hL15.out]; omega
    have hownB : Own w4 w.heap.size A4 c4 L := hown4.mono hzb
    have hrB : Rd w4 A l := hr.below hbb4
    rw [hL15.out]
    clear hown4 hb4 ho3
    have HT : Hid (tagP (L ++ l) = if l.length = 0 then 0 else 30) := Lib.hid (by
      by_cases h0 : l.length = 0
      · rw [if_pos h0, List.length_eq_zero_iff.1 h0, List.append_nil]
        exact (tagW_some hTL.out).2
      · rw [if_neg h0]
        exact (tagW_none (tagB_len (by rw [List.length_append, hL15.out]; omega))).2)
    obtain ⟨f0, F0⟩ : ∃ f, Hid (f = tagF (L ++ l) 0 1) := ⟨_, Lib.hid rfl⟩
    obtain ⟨f1, F1⟩ : ∃ f, Hid (f = tagF (L ++ l) 1 1) := ⟨_, Lib.hid rfl⟩
    obtain ⟨f2, F2⟩ : ∃ f, Hid (f = tagF (L ++ l) 2 1) := ⟨_, Lib.hid rfl⟩
    obtain ⟨f3, F3⟩ : ∃ f, Hid (f = tagF (L ++ l) 3 6) := ⟨_, Lib.hid rfl⟩
    obtain ⟨f4, F4⟩ : ∃ f, Hid (f = tagF (L ++ l) 9 6) := ⟨_, Lib.hid rfl⟩
    have HW : Hid (tagW (L ++ l) = .agg #[.int .i64 f0, .int .i64 f1, .int .i64 f2, .int .i64 f3, .int .i64 f4]) := Lib.hid (by rw [F0.out, F1.out, F2.out, F3.out, F4.out]; rfl)
    have HLE : Hid (15 + l.length = (L ++ l).length) := Lib.hid (by rw [List.length_append, hL15.out])
    by_cases h0 : l.length = 0
    · have hx : ((l.length : Int) == 0) = true := by rw [h0]; rfl
      rw [if_pos h0] at HT
      clear h0
      go_wp2_with (at_builtin; refine wpList_append_bytes _ rfl _ _ rfl w.heap.size A4 15 c4 L rfl hL15.out.symm hownB A _ c l rfl rfl hrB hlA hz4 ?_; intro A5 c5 w5 hown5 hb5 _)
      refine (parse_n A5 c5 (L ++ l) _ _ hown5.rd hown5.caps.1 hown5.caps.2 List.length_append.symm).mono ?_
      rw [HW.out, HT.out]
      rintro e w6 ⟨rfl, hb6⟩
      have hbb5 := hbb4.trans hb5
      have hbb6 := bt hbb5 hb6
      go_wp2_with fail
      go_ret
      exact ⟨rfl, bal hbb6 _⟩
    · have hx : ((l.length : Int) == 0) = false := by rw [beq_eq_false_iff_ne]; omega
      rw [if_neg h0] at HT
      clear h0
      go_wp2_with (at_builtin; refine wpList_append_bytes _ rfl _ _ rfl w.heap.size A4 15 c4 L rfl hL15.out.symm hownB A _ c l rfl rfl hrB hlA hz4 ?_; intro A5 c5 w5 hown5 hb5 _)
      refine (parse_n A5 c5 (L ++ l) _ _ hown5.rd hown5.caps.1 hown5.caps.2 List.length_append.symm).mono ?_
      rw [HW.out, HT.out]
      rintro e w6 ⟨rfl, hb6⟩
      have hbb5 := hbb4.trans hb5
      have hbb6 := bt hbb5 hb6
      go_wp2_with fail
      go_ret
      exact ⟨rfl, bal hbb6 _⟩
end Go.Proofs.Ytclnncchbeldcaa
