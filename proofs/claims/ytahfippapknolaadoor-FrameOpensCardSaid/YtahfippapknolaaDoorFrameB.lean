/-
  THE WALKS OF THE REFERENCE's frames: Room, Seal.
-/
import Derived.Test.YtahfippapknolaaDoorFrameA
import Derived.Test.YtahfippapknolaaDoorTagH
namespace Go.Proofs.YtahfippapknolaaDoor
open Go.RowKit
set_option linter.unusedVariables false

def sliceN : Value → Nat | .slice _ n _ => n | _ => 0

theorem rroom_any (s : Int) (w : World) : Calls Tryd.prog 25 #[.int .i64 s] w fun e w' => e = .returned (.int .i64 (roomI s)) ∧ w = w' := by
  by_cases h1 : s = 1
  · subst h1
    go_enter Tryd.func25, Tryd.ntmps25
    go_wp2_with fail
    go_ret
    exact ⟨rfl, rfl⟩
  by_cases h2 : s = 2
  · subst h2
    go_enter Tryd.func25, Tryd.ntmps25
    go_wp2_with fail
    go_ret
    exact ⟨rfl, rfl⟩
  have e : roomI s = 0 := by unfold roomI; rw [if_neg h1, if_neg h2]
  rw [e]
  have g1 : (s == 1) = false := by rw [beq_eq_false_iff_ne]; exact h1
  have g2 : (s == 2) = false := by rw [beq_eq_false_iff_ne]; exact h2
  clear h1 h2 e
  go_enter Tryd.func25, Tryd.ntmps25
  go_wp2_with fail
  go_ret
  exact ⟨rfl, rfl⟩

set_option maxHeartbeats 1000000 in
theorem rseal_0 (rp rg pl ix ic : Int) (A : Option Addr) (c : Nat) (l : List UInt8) (s : Int) (w : World) (hm : mayB rp rg pl ix ic = false) : Calls Tryd.prog 28 #[.agg #[.int .i64 rp, .int .i64 rg, .int .i64 pl, .int .i64 ix, .int .i64 ic], .slice A l.length c, .int .i64 s] w (RetBI w [] 2) := by
  have HL : Hid (tagE rp rg pl ix ic = 2) := Lib.hid (by simp [tagE, hm])
  clear hm
  go_enter Tryd.func28, Tryd.ntmps28
  go_wp2_with fail
  refine (rprint_any _ _ _ _ _ _).mono ?_
  rw [HL.out]
  rintro e w1 ⟨A1, c1, rfl, hown1, hb1⟩
  go_wp2_with fail
  go_ret2
  exact ⟨none, 0, rfl, Own.none_ _ _, bac hb1⟩
set_option maxHeartbeats 1000000 in
theorem rseal_1 (rp rg pl ix ic : Int) (A : Option Addr) (c : Nat) (l : List UInt8) (s : Int) (w : World) (hm : mayB rp rg pl ix ic = true) (hs : roomI s = 0) : Calls Tryd.prog 28 #[.agg #[.int .i64 rp, .int .i64 rg, .int .i64 pl, .int .i64 ix, .int .i64 ic], .slice A l.length c, .int .i64 s] w (RetBI w [] 2) := by
  have HL : Hid (tagE rp rg pl ix ic = 0) := Lib.hid (by simp [tagE, hm])
  have HS := Lib.hid hs
  clear hm hs
  go_enter Tryd.func28, Tryd.ntmps28
  go_wp2_with fail
  refine (rprint_any _ _ _ _ _ _).mono ?_
  rw [HL.out]
  rintro e w1 ⟨A1, c1, rfl, hown1, hb1⟩
  go_wp2_with fail
  refine (rroom_any _ _).mono ?_
  rw [HS.out]
  rintro e w2 ⟨rfl, rfl⟩
  go_wp2_with fail
  go_ret2
  exact ⟨none, 0, rfl, Own.none_ _ _, bac hb1⟩
set_option maxHeartbeats 1000000 in
theorem rseal_2_1 (rp rg pl ix ic : Int) (A : Option Addr) (c : Nat) (l : List UInt8) (w : World) (hm : mayB rp rg pl ix ic = true) (hl : 43 < l.length) : Calls Tryd.prog 28 #[.agg #[.int .i64 rp, .int .i64 rg, .int .i64 pl, .int .i64 ix, .int .i64 ic], .slice A l.length c, .int .i64 1] w (RetBI w [] 3) := by
  have HL : Hid (tagE rp rg pl ix ic = 0) := Lib.hid (by simp [tagE, hm])
  have HS : Hid (roomI 1 = 43) := Lib.hid rfl
  have g : (43 : Int) < l.length := by omega
  clear hm hl
  go_enter Tryd.func28, Tryd.ntmps28
  go_wp2_with fail
  refine (rprint_any _ _ _ _ _ _).mono ?_
  rw [HL.out]
  rintro e w1 ⟨A1, c1, rfl, hown1, hb1⟩
  go_wp2_with fail
  refine (rroom_any _ _).mono ?_
  rw [HS.out]
  rintro e w2 ⟨rfl, rfl⟩
  go_wp2_with fail
  refine (rroom_any _ _).mono ?_
  rw [HS.out]
  rintro e w2 ⟨rfl, rfl⟩
  go_wp2_with fail
  go_ret2
  exact ⟨none, 0, rfl, Own.none_ _ _, bac hb1⟩
set_option maxRecDepth 100000 in
set_option maxHeartbeats 4000000 in
theorem rseal_3_1 (rp rg pl ix ic : Int) (A : Option Addr) (c : Nat) (l : List UInt8) (w : World) (hr : Rd w A l) (hm : mayB rp rg pl ix ic = true) (hl : l.length ≤ 43) : Calls Tryd.prog 28 #[.agg #[.int .i64 rp, .int .i64 rg, .int .i64 pl, .int .i64 ix, .int .i64 ic], .slice A l.length c, .int .i64 1] w (RetBI w (frmL 64 (tagL rp rg pl ix ic) l) 0) := by
  have HL : Hid (tagE rp rg pl ix ic = 0) := Lib.hid (by simp [tagE, hm])
  have HS : Hid (roomI 1 = 43) := Lib.hid rfl
  have g : decide ((43 : Int) < l.length) = false := decide_eq_false (by omega)
  obtain ⟨L, HLL⟩ : ∃ L, Hid (L = tagL rp rg pl ix ic) := ⟨_, Lib.hid rfl⟩
  have hL15 : L.length = 15 := by rw [HLL.out, tagL_length, hm]; rfl
  rw [← HLL.out]
  obtain ⟨S2, HS2⟩ : ∃ L, Hid (L = putL 2 l.length) := ⟨_, Lib.hid rfl⟩
  have hS2 : S2.length = 2 := by rw [HS2.out, putL_two (by omega) (by omega), leB_length]
  obtain ⟨P, HP⟩ : ∃ P, Hid (P = preL L l) := ⟨_, Lib.hid rfl⟩
  have hPl : P.length = 17 + l.length := by rw [HP.out]; exact preL_length _ _ hL15 (by omega)
  have HPJ : Hid ((S2 ++ L) ++ l = P) := Lib.hid (by rw [HP.out, preL, HS2.out, List.append_assoc])
  obtain ⟨Q, HQ⟩ : ∃ Q, Hid (Q = padL (64 - 4) P) := ⟨_, Lib.hid rfl⟩
  have hQl : Q.length = 60 := by rw [HQ.out, padL_length _ _ (by omega)]
  obtain ⟨u, HU⟩ : ∃ u, Hid (u = sum Q) := ⟨_, Lib.hid rfl⟩
  have hu : u < 4294967296 := by rw [HU.out]; exact sum_lt _
  obtain ⟨S4, HS4⟩ : ∃ L, Hid (L = putL 4 u) := ⟨_, Lib.hid rfl⟩
  have hS4 : S4.length = 4 := by rw [HS4.out, putL_four (by omega) (by omega), leB_length]
  have HF : Hid (frmL 64 L l = Q ++ S4) := Lib.hid (by rw [frmL, ← HP.out, ← HQ.out, ← HU.out, HS4.out])
  rw [HF.out]
  clear HF
  have hl47 : l.length ≤ 43 := hl
  clear hm hl
  have HL15 := Lib.hid hL15
  have HS2l := Lib.hid hS2
  have HPl := Lib.hid hPl
  have HQl := Lib.hid hQl
  have HS4l := Lib.hid hS4
  have hn1 : S2.length + L.length ≤ 140737488355328 := by omega
  have hn2 : (S2 ++ L).length + l.length ≤ 140737488355328 := by rw [List.length_append]; omega
  have HN1 : Hid (S2.length + L.length = (S2 ++ L).length) := Lib.hid List.length_append.symm
  clear hL15 hS2 hPl hQl hS4
  go_enter Tryd.func28, Tryd.ntmps28
  go_wp2_with fail
  refine (rprint_any _ _ _ _ _ _).mono ?_
  rw [HL.out, ← HLL.out]
  rintro e w1 ⟨A1, c1, rfl, hown1, hb1⟩
  have hbb1 := bac hb1
  go_wp2_with fail
  refine (rroom_any _ _).mono ?_
  rw [HS.out]
  rintro e w2 ⟨rfl, rfl⟩
  go_wp2_with fail
  refine (rroom_any _ _).mono ?_
  rw [HS.out]
  rintro e w2 ⟨rfl, rfl⟩
  go_wp2_with fail
  refine (rput_any 2 l.length _ (by omega)).mono ?_
  rw [← HS2.out]
  rintro e w2 ⟨A2, c2, rfl, hown2, hb2⟩
  have hbb2 := bt hbb1 hb2
  have hz2 := hbb2.size
  have hoA := hown2.mono hbb1.size
  have ho1 := hown1.below hb2
  have hr2 := hr.below hbb2
  clear hb1 hb2 hbb1 hown1 hown2
  go_wp2_with (first | (at_builtin; refine wpList_append_bytes _ rfl (.tmp 37) (.tmp 38) rfl w.heap.size A2 _ c2 S2 rfl rfl hoA A1 _ c1 L rfl rfl ho1.rd hn1 hz2 ?_; intro A3 c3 w3 hown3 hb3 _; have hr3 : Rd w3 A l := hr.below (hbb2.trans hb3); have hz3 := (hbb2.trans hb3).size) | (at_builtin; refine wpList_append_bytes _ rfl (.tmp 40) (.tmp 41) rfl w.heap.size A3 _ c3 (S2 ++ L) rfl HN1.out hown3 A _ c l rfl rfl hr3 hn2 hz3 ?_; intro A4 c4 w4 hown4 hb4 _))
  have hbb4 := (hbb2.trans hb3).trans hb4
  rw [HPJ.out] at hown4
  clear hb3 hb4 hown3 hr3 hbb2 hz2 hz3 hoA ho1 hr2 HN1 hn1 hn2
  go_loopw [10] (fun v wr => ∃ (k n : Nat) (A : Option Addr) (c : Nat), n ≤ 60 ∧ v = .slice A n c ∧ Hid (n = P.length + k) ∧ Own wr w.heap.size A c (P ++ List.replicate k 0) ∧ Below w.heap.size w wr) (fun v _ => 60 - sliceN v)
  case atStart => exact ⟨0, _, A4, c4, by have := HS2l.out; have := HL15.out; omega, rfl, Lib.hid (by rw [← HPJ.out]; simp), by simpa using hown4, hbb4⟩
  case round =>
    obtain ⟨k, q, A5, c5, hk, rfl, HQ5, hown5, hbr⟩ := hrel
    have hzr := hbr.size
    by_cases hlt : q < 60
    · have hrz := rd_lit wr [0] #[.int .u8 0] rfl
      have hnl : (P ++ List.replicate k 0).length + [(0 : UInt8)].length ≤ 140737488355328 := by have := HPl.out; have := HQ5.out; simp; omega
      have HNL : Hid (q = (P ++ List.replicate k 0).length) := Lib.hid (by rw [HQ5.out]; simp)
      have ho5 := hown5.alloc (.cells #[.int .u8 0] 5)
      go_wp2_with (at_builtin; refine wpList_append_bytes _ rfl _ _ rfl w.heap.size A5 q c5 (P ++ List.replicate k 0) rfl HNL.out ho5 _ 1 1 [0] rfl rfl hrz hnl ?_ ?_; (simp; omega); intro A6 c6 w6 hown6 hb6 _)
      go_roundw
      case measure => have := HQ5.out; simp [sliceN]; omega
      case rel =>
        refine ⟨k + 1, _, A6, c6, by have := HQ5.out; omega, rfl, Lib.hid rfl, ?_, (bal hbr _).trans hb6⟩
        rw [List.replicate_succ', ← List.append_assoc]
        exact hown6
    · have hq : q = 60 := by omega
      have hP60 : P.length + k = 60 := by rw [← HQ5.out]; exact hq
      have HQP : Hid (P ++ List.replicate k 0 = Q) := Lib.hid (by rw [HQ.out, padL]; congr 2; omega)
      have hown7 : Own wr w.heap.size A5 c5 Q := by rw [← HQP.out]; exact hown5
      subst hq
      clear HQ5 HQP hP60 hown5 hk hlt
      go_wp2_with fail
      refine (rsum_any A5 c5 Q 60 _ hown7.rd (by rw [HQl.out]; decide) HQl.out.symm).mono ?_
      rw [← HU.out]
      rintro e w5 ⟨rfl, rfl⟩
      go_wp2_with fail
      refine (rput_any 4 u _ (by omega)).mono ?_
      rw [← HS4.out]
      rintro e w6 ⟨A6, c6, rfl, hown6, hb6⟩
      have hbb6 := bt hbr hb6
      have hz6 := hbb6.size
      have hnl : Q.length + S4.length ≤ 140737488355328 := by have := HQl.out; have := HS4l.out; omega
      have hown8 := hown7.below hb6
      clear hown7 hb6
      go_wp2_with (at_builtin; refine wpList_append_bytes _ rfl _ _ rfl w.heap.size A5 60 c5 Q rfl HQl.out.symm hown8 A6 _ c6 S4 rfl rfl hown6.rd hnl hz6 ?_; intro A7 c7 w7 hown9 hb7 _)
      go_ret2
      exact retBI_mk (by rw [List.length_append]) hown9 (hbb6.trans hb7)
set_option maxHeartbeats 1000000 in
theorem rseal_2_2 (rp rg pl ix ic : Int) (A : Option Addr) (c : Nat) (l : List UInt8) (w : World) (hm : mayB rp rg pl ix ic = true) (hl : 88 < l.length) : Calls Tryd.prog 28 #[.agg #[.int .i64 rp, .int .i64 rg, .int .i64 pl, .int .i64 ix, .int .i64 ic], .slice A l.length c, .int .i64 2] w (RetBI w [] 3) := by
  have HL : Hid (tagE rp rg pl ix ic = 0) := Lib.hid (by simp [tagE, hm])
  have HS : Hid (roomI 2 = 88) := Lib.hid rfl
  have g : (88 : Int) < l.length := by omega
  clear hm hl
  go_enter Tryd.func28, Tryd.ntmps28
  go_wp2_with fail
  refine (rprint_any _ _ _ _ _ _).mono ?_
  rw [HL.out]
  rintro e w1 ⟨A1, c1, rfl, hown1, hb1⟩
  go_wp2_with fail
  refine (rroom_any _ _).mono ?_
  rw [HS.out]
  rintro e w2 ⟨rfl, rfl⟩
  go_wp2_with fail
  refine (rroom_any _ _).mono ?_
  rw [HS.out]
  rintro e w2 ⟨rfl, rfl⟩
  go_wp2_with fail
  go_ret2
  exact ⟨none, 0, rfl, Own.none_ _ _, bac hb1⟩
set_option maxRecDepth 100000 in
set_option maxHeartbeats 4000000 in
theorem rseal_3_2 (rp rg pl ix ic : Int) (A : Option Addr) (c : Nat) (l : List UInt8) (w : World) (hr : Rd w A l) (hm : mayB rp rg pl ix ic = true) (hl : l.length ≤ 88) : Calls Tryd.prog 28 #[.agg #[.int .i64 rp, .int .i64 rg, .int .i64 pl, .int .i64 ix, .int .i64 ic], .slice A l.length c, .int .i64 2] w (RetBI w (frmL 128 (tagL rp rg pl ix ic) l) 0) := by
  have HL : Hid (tagE rp rg pl ix ic = 0) := Lib.hid (by simp [tagE, hm])
  have HS : Hid (roomI 2 = 88) := Lib.hid rfl
  have g : decide ((88 : Int) < l.length) = false := decide_eq_false (by omega)
  obtain ⟨L, HLL⟩ : ∃ L, Hid (L = tagL rp rg pl ix ic) := ⟨_, Lib.hid rfl⟩
  have hL15 : L.length = 15 := by rw [HLL.out, tagL_length, hm]; rfl
  rw [← HLL.out]
  obtain ⟨S2, HS2⟩ : ∃ L, Hid (L = putL 2 l.length) := ⟨_, Lib.hid rfl⟩
  have hS2 : S2.length = 2 := by rw [HS2.out, putL_two (by omega) (by omega), leB_length]
  obtain ⟨P, HP⟩ : ∃ P, Hid (P = preL L l) := ⟨_, Lib.hid rfl⟩
  have hPl : P.length = 17 + l.length := by rw [HP.out]; exact preL_length _ _ hL15 (by omega)
  have HPJ : Hid ((S2 ++ L) ++ l = P) := Lib.hid (by rw [HP.out, preL, HS2.out, List.append_assoc])
  obtain ⟨Q, HQ⟩ : ∃ Q, Hid (Q = padL (128 - 4) P) := ⟨_, Lib.hid rfl⟩
  have hQl : Q.length = 124 := by rw [HQ.out, padL_length _ _ (by omega)]
  obtain ⟨u, HU⟩ : ∃ u, Hid (u = sum Q) := ⟨_, Lib.hid rfl⟩
  have hu : u < 4294967296 := by rw [HU.out]; exact sum_lt _
  obtain ⟨S4, HS4⟩ : ∃ L, Hid (L = putL 4 u) := ⟨_, Lib.hid rfl⟩
  have hS4 : S4.length = 4 := by rw [HS4.out, putL_four (by omega) (by omega), leB_length]
  have HF : Hid (frmL 128 L l = Q ++ S4) := Lib.hid (by rw [frmL, ← HP.out, ← HQ.out, ← HU.out, HS4.out])
  rw [HF.out]
  clear HF
  have hl47 : l.length ≤ 88 := hl
  clear hm hl
  have HL15 := Lib.hid hL15
  have HS2l := Lib.hid hS2
  have HPl := Lib.hid hPl
  have HQl := Lib.hid hQl
  have HS4l := Lib.hid hS4
  have hn1 : S2.length + L.length ≤ 140737488355328 := by omega
  have hn2 : (S2 ++ L).length + l.length ≤ 140737488355328 := by rw [List.length_append]; omega
  have HN1 : Hid (S2.length + L.length = (S2 ++ L).length) := Lib.hid List.length_append.symm
  clear hL15 hS2 hPl hQl hS4
  go_enter Tryd.func28, Tryd.ntmps28
  go_wp2_with fail
  refine (rprint_any _ _ _ _ _ _).mono ?_
  rw [HL.out, ← HLL.out]
  rintro e w1 ⟨A1, c1, rfl, hown1, hb1⟩
  have hbb1 := bac hb1
  go_wp2_with fail
  refine (rroom_any _ _).mono ?_
  rw [HS.out]
  rintro e w2 ⟨rfl, rfl⟩
  go_wp2_with fail
  refine (rroom_any _ _).mono ?_
  rw [HS.out]
  rintro e w2 ⟨rfl, rfl⟩
  go_wp2_with fail
  refine (rput_any 2 l.length _ (by omega)).mono ?_
  rw [← HS2.out]
  rintro e w2 ⟨A2, c2, rfl, hown2, hb2⟩
  have hbb2 := bt hbb1 hb2
  have hz2 := hbb2.size
  have hoA := hown2.mono hbb1.size
  have ho1 := hown1.below hb2
  have hr2 := hr.below hbb2
  clear hb1 hb2 hbb1 hown1 hown2
  go_wp2_with (first | (at_builtin; refine wpList_append_bytes _ rfl (.tmp 37) (.tmp 38) rfl w.heap.size A2 _ c2 S2 rfl rfl hoA A1 _ c1 L rfl rfl ho1.rd hn1 hz2 ?_; intro A3 c3 w3 hown3 hb3 _; have hr3 : Rd w3 A l := hr.below (hbb2.trans hb3); have hz3 := (hbb2.trans hb3).size) | (at_builtin; refine wpList_append_bytes _ rfl (.tmp 40) (.tmp 41) rfl w.heap.size A3 _ c3 (S2 ++ L) rfl HN1.out hown3 A _ c l rfl rfl hr3 hn2 hz3 ?_; intro A4 c4 w4 hown4 hb4 _))
  have hbb4 := (hbb2.trans hb3).trans hb4
  rw [HPJ.out] at hown4
  clear hb3 hb4 hown3 hr3 hbb2 hz2 hz3 hoA ho1 hr2 HN1 hn1 hn2
  go_loopw [10] (fun v wr => ∃ (k n : Nat) (A : Option Addr) (c : Nat), n ≤ 124 ∧ v = .slice A n c ∧ Hid (n = P.length + k) ∧ Own wr w.heap.size A c (P ++ List.replicate k 0) ∧ Below w.heap.size w wr) (fun v _ => 124 - sliceN v)
  case atStart => exact ⟨0, _, A4, c4, by have := HS2l.out; have := HL15.out; omega, rfl, Lib.hid (by rw [← HPJ.out]; simp), by simpa using hown4, hbb4⟩
  case round =>
    obtain ⟨k, q, A5, c5, hk, rfl, HQ5, hown5, hbr⟩ := hrel
    have hzr := hbr.size
    by_cases hlt : q < 124
    · have hrz := rd_lit wr [0] #[.int .u8 0] rfl
      have hnl : (P ++ List.replicate k 0).length + [(0 : UInt8)].length ≤ 140737488355328 := by have := HPl.out; have := HQ5.out; simp; omega
      have HNL : Hid (q = (P ++ List.replicate k 0).length) := Lib.hid (by rw [HQ5.out]; simp)
      have ho5 := hown5.alloc (.cells #[.int .u8 0] 5)
      go_wp2_with (at_builtin; refine wpList_append_bytes _ rfl _ _ rfl w.heap.size A5 q c5 (P ++ List.replicate k 0) rfl HNL.out ho5 _ 1 1 [0] rfl rfl hrz hnl ?_ ?_; (simp; omega); intro A6 c6 w6 hown6 hb6 _)
      go_roundw
      case measure => have := HQ5.out; simp [sliceN]; omega
      case rel =>
        refine ⟨k + 1, _, A6, c6, by have := HQ5.out; omega, rfl, Lib.hid rfl, ?_, (bal hbr _).trans hb6⟩
        rw [List.replicate_succ', ← List.append_assoc]
        exact hown6
    · have hq : q = 124 := by omega
      have hP60 : P.length + k = 124 := by rw [← HQ5.out]; exact hq
      have HQP : Hid (P ++ List.replicate k 0 = Q) := Lib.hid (by rw [HQ.out, padL]; congr 2; omega)
      have hown7 : Own wr w.heap.size A5 c5 Q := by rw [← HQP.out]; exact hown5
      subst hq
      clear HQ5 HQP hP60 hown5 hk hlt
      go_wp2_with fail
      refine (rsum_any A5 c5 Q 124 _ hown7.rd (by rw [HQl.out]; decide) HQl.out.symm).mono ?_
      rw [← HU.out]
      rintro e w5 ⟨rfl, rfl⟩
      go_wp2_with fail
      refine (rput_any 4 u _ (by omega)).mono ?_
      rw [← HS4.out]
      rintro e w6 ⟨A6, c6, rfl, hown6, hb6⟩
      have hbb6 := bt hbr hb6
      have hz6 := hbb6.size
      have hnl : Q.length + S4.length ≤ 140737488355328 := by have := HQl.out; have := HS4l.out; omega
      have hown8 := hown7.below hb6
      clear hown7 hb6
      go_wp2_with (at_builtin; refine wpList_append_bytes _ rfl _ _ rfl w.heap.size A5 124 c5 Q rfl HQl.out.symm hown8 A6 _ c6 S4 rfl rfl hown6.rd hnl hz6 ?_; intro A7 c7 w7 hown9 hb7 _)
      go_ret2
      exact retBI_mk (by rw [List.length_append]) hown9 (hbb6.trans hb7)
theorem rseal_any (rp rg pl ix ic : Int) (A : Option Addr) (c : Nat) (l : List UInt8) (s : Int) (w : World) (hr : Rd w A l) : Calls Tryd.prog 28 #[.agg #[.int .i64 rp, .int .i64 rg, .int .i64 pl, .int .i64 ix, .int .i64 ic], .slice A l.length c, .int .i64 s] w (RetBI w (sealL rp rg pl ix ic l s) (sealE (mayB rp rg pl ix ic) l s)) := by
  cases hm : mayB rp rg pl ix ic
  · have e : sealE false l s = 2 := by simp [sealE]
    rw [sealL, hm, e]
    exact rseal_0 rp rg pl ix ic A c l s w hm
  by_cases h0 : roomI s = 0
  · have e : sealE true l s = 2 := by simp [sealE, h0]
    rw [sealL, hm, e]
    exact rseal_1 rp rg pl ix ic A c l s w hm h0
  rcases roomI_cases h0 with ⟨rfl, h1⟩ | ⟨rfl, h1⟩
  · by_cases hl : 43 < l.length
    · have e : sealE true l 1 = 3 := by unfold sealE; rw [h1, if_neg (by simp), if_pos (by omega)]
      rw [sealL, hm, e]
      exact rseal_2_1 rp rg pl ix ic A c l w hm hl
    · have e : sealE true l 1 = 0 := by unfold sealE; rw [h1, if_neg (by simp), if_neg (by omega)]
      rw [sealL, hm, e]
      exact rseal_3_1 rp rg pl ix ic A c l w hr hm (by omega)
  · by_cases hl : 88 < l.length
    · have e : sealE true l 2 = 3 := by unfold sealE; rw [h1, if_neg (by simp), if_pos (by omega)]
      rw [sealL, hm, e]
      exact rseal_2_2 rp rg pl ix ic A c l w hm hl
    · have e : sealE true l 2 = 0 := by unfold sealE; rw [h1, if_neg (by simp), if_neg (by omega)]
      rw [sealL, hm, e]
      exact rseal_3_2 rp rg pl ix ic A c l w hr hm (by omega)
end Go.Proofs.YtahfippapknolaaDoor
