/-
  THE WALKS OF frame/frame.go: Room, Seal.
-/
import Derived.Test.YtahfippapknolaaDoorFramePlain
import Derived.Test.YtahfippapknolaaDoorCopy
import Derived.Test.YtahfippapknolaaDoorTagE
import Derived.Test.YtahfippapknolaaDoorCrcC
namespace Go.Proofs.YtahfippapknolaaDoor
open Go.RowKit
set_option linter.unusedVariables false

theorem splice_zero (n : Nat) (p : List UInt8) : splice (List.replicate n 0) 0 p = padL n p := by
  simp [splice, padL]
theorem splice_sum (n : Nat) (p s : List UInt8) (hp : p.length + 4 ≤ n) (hs : s.length = 4) : splice (padL n p) (n - 4) s = padL (n - 4) p ++ s := by
  have h1 : (padL n p).take (n - 4) = padL (n - 4) p := by
    unfold padL
    rw [List.take_append, List.take_of_length_le (by omega)]
    simp
    omega
  have h2 : (padL n p).drop (n - 4 + s.length) = [] := List.drop_eq_nil_iff.2 (by rw [padL_length _ _ (by omega)]; omega)
  unfold splice
  rw [h1, h2, List.append_nil]
theorem pad_take (n : Nat) (p : List UInt8) (hp : p.length + 4 ≤ n) : (padL n p).take (n - 4) = padL (n - 4) p := by
  unfold padL
  rw [List.take_append, List.take_of_length_le (by omega)]
  simp
  omega

theorem room_any (s : Int) (w : World) : Calls Tryd.prog 18 #[.int .i64 s] w fun e w' => e = .returned (.int .i64 (roomI s)) ∧ w = w' := by
  by_cases h1 : s = 1
  · subst h1
    go_enter Tryd.func18, Tryd.ntmps18
    go_wp2_with fail
    go_ret
    exact ⟨rfl, rfl⟩
  by_cases h2 : s = 2
  · subst h2
    go_enter Tryd.func18, Tryd.ntmps18
    go_wp2_with fail
    go_ret
    exact ⟨rfl, rfl⟩
  have e : roomI s = 0 := by unfold roomI; rw [if_neg h1, if_neg h2]
  rw [e]
  have g1 : (s != 1) = true := by rw [bne_iff_ne]; exact h1
  have g2 : (s != 2) = true := by rw [bne_iff_ne]; exact h2
  clear h1 h2 e
  go_enter Tryd.func18, Tryd.ntmps18
  go_wp2_with fail
  go_ret
  exact ⟨rfl, rfl⟩

set_option maxHeartbeats 1000000 in
theorem seal_0 (rp rg pl ix ic : Int) (A : Option Addr) (c : Nat) (l : List UInt8) (s : Int) (w : World) (hm : mayB rp rg pl ix ic = false) : Calls Tryd.prog 16 #[.agg #[.int .i64 rp, .int .i64 rg, .int .i64 pl, .int .i64 ix, .int .i64 ic], .slice A l.length c, .int .i64 s] w (RetBI w [] 2) := by
  have HL : Hid (tagE rp rg pl ix ic = 2) := Lib.hid (by simp [tagE, hm])
  clear hm
  go_enter Tryd.func16, Tryd.ntmps16
  go_wp2_with fail
  refine (print_any _ _ _ _ _ _).mono ?_
  rw [HL.out]
  rintro e w1 ⟨A1, c1, rfl, hown1, hb1⟩
  go_wp2_with fail
  go_ret2
  exact ⟨none, 0, rfl, Own.none_ _ _, bac hb1⟩
set_option maxHeartbeats 1000000 in
theorem seal_1 (rp rg pl ix ic : Int) (A : Option Addr) (c : Nat) (l : List UInt8) (s : Int) (w : World) (hm : mayB rp rg pl ix ic = true) (hs : roomI s = 0) : Calls Tryd.prog 16 #[.agg #[.int .i64 rp, .int .i64 rg, .int .i64 pl, .int .i64 ix, .int .i64 ic], .slice A l.length c, .int .i64 s] w (RetBI w [] 2) := by
  have HL : Hid (tagE rp rg pl ix ic = 0) := Lib.hid (by simp [tagE, hm])
  have HS := Lib.hid hs
  clear hm hs
  go_enter Tryd.func16, Tryd.ntmps16
  go_wp2_with fail
  refine (print_any _ _ _ _ _ _).mono ?_
  rw [HL.out]
  rintro e w1 ⟨A1, c1, rfl, hown1, hb1⟩
  go_wp2_with fail
  refine (room_any _ _).mono ?_
  rw [HS.out]
  rintro e w2 ⟨rfl, rfl⟩
  go_wp2_with fail
  go_ret2
  exact ⟨none, 0, rfl, Own.none_ _ _, bac hb1⟩
set_option maxHeartbeats 1000000 in
theorem seal_2_1 (rp rg pl ix ic : Int) (A : Option Addr) (c : Nat) (l : List UInt8) (w : World) (hm : mayB rp rg pl ix ic = true) (hl : 43 < l.length) : Calls Tryd.prog 16 #[.agg #[.int .i64 rp, .int .i64 rg, .int .i64 pl, .int .i64 ix, .int .i64 ic], .slice A l.length c, .int .i64 1] w (RetBI w [] 3) := by
  have HL : Hid (tagE rp rg pl ix ic = 0) := Lib.hid (by simp [tagE, hm])
  have HS : Hid (roomI 1 = 43) := Lib.hid rfl
  have g : (43 : Int) < l.length := by omega
  clear hm hl
  go_enter Tryd.func16, Tryd.ntmps16
  go_wp2_with fail
  refine (print_any _ _ _ _ _ _).mono ?_
  rw [HL.out]
  rintro e w1 ⟨A1, c1, rfl, hown1, hb1⟩
  go_wp2_with fail
  refine (room_any _ _).mono ?_
  rw [HS.out]
  rintro e w2 ⟨rfl, rfl⟩
  go_wp2_with fail
  refine (room_any _ _).mono ?_
  rw [HS.out]
  rintro e w2 ⟨rfl, rfl⟩
  go_wp2_with fail
  go_ret2
  exact ⟨none, 0, rfl, Own.none_ _ _, bac hb1⟩
set_option maxHeartbeats 4000000 in
theorem seal_3_1 (rp rg pl ix ic : Int) (A : Option Addr) (c : Nat) (l : List UInt8) (w : World) (hr : Rd w A l) (hm : mayB rp rg pl ix ic = true) (hl : l.length ≤ 43) : Calls Tryd.prog 16 #[.agg #[.int .i64 rp, .int .i64 rg, .int .i64 pl, .int .i64 ix, .int .i64 ic], .slice A l.length c, .int .i64 1] w (RetBI w (frmL 64 (tagL rp rg pl ix ic) l) 0) := by
  have HL : Hid (tagE rp rg pl ix ic = 0) := Lib.hid (by simp [tagE, hm])
  have HS : Hid (roomI 1 = 43) := Lib.hid rfl
  have g : decide ((43 : Int) < l.length) = false := decide_eq_false (by omega)
  obtain ⟨L, HLL⟩ : ∃ L, Hid (L = tagL rp rg pl ix ic) := ⟨_, Lib.hid rfl⟩
  have hL15 : L.length = 15 := by rw [HLL.out, tagL_length, hm]; rfl
  rw [← HLL.out]
  obtain ⟨S2, HS2⟩ : ∃ L, Hid (L = putL 2 l.length) := ⟨_, Lib.hid rfl⟩
  have hS2 : S2.length = 2 := by rw [HS2.out, putL_two (by omega) (by omega), leB_length]
  obtain ⟨P, HP⟩ : ∃ P, Hid (P = preL L l) := ⟨_, Lib.hid rfl⟩
  have hPl : P.length = 17 + l.length := by rw [HP.out]; exact preL_length _ _ hL15 (by omega)
  have HPJ : Hid ([S2, L, l].flatten = P) := Lib.hid (by rw [HP.out, preL, HS2.out]; simp)
  obtain ⟨Q, HQ⟩ : ∃ Q, Hid (Q = padL (64 - 4) P) := ⟨_, Lib.hid rfl⟩
  have hQl : Q.length = 60 := by rw [HQ.out, padL_length _ _ (by omega)]
  obtain ⟨u, HU⟩ : ∃ u, Hid (u = sum Q) := ⟨_, Lib.hid rfl⟩
  have hu : u < 4294967296 := by rw [HU.out]; exact sum_lt _
  obtain ⟨S4, HS4⟩ : ∃ L, Hid (L = putL 4 u) := ⟨_, Lib.hid rfl⟩
  have hS4 : S4.length = 4 := by rw [HS4.out, putL_four (by omega) (by omega), leB_length]
  have HF : Hid (frmL 64 L l = Q ++ S4) := Lib.hid (by rw [frmL, ← HP.out, ← HQ.out, ← HU.out, HS4.out])
  rw [HF.out]
  have HT : Hid (mayB rp rg pl ix ic = true) := Lib.hid hm
  have hl47 : l.length ≤ 43 := hl
  clear hm hl
  have HL15 := Lib.hid hL15
  have HS2l := Lib.hid hS2
  have HPl := Lib.hid hPl
  have HQl := Lib.hid hQl
  have HS4l := Lib.hid hS4
  clear hL15 hS2 hPl hQl hS4
  go_enter Tryd.func16, Tryd.ntmps16
  go_wp2_with fail
  refine (print_any _ _ _ _ _ _).mono ?_
  rw [HL.out, ← HLL.out]
  rintro e w1 ⟨A1, c1, rfl, hown1, hb1⟩
  have hbb1 := bac hb1
  go_wp2_with fail
  refine (room_any _ _).mono ?_
  rw [HS.out]
  rintro e w2 ⟨rfl, rfl⟩
  go_wp2_with fail
  refine (room_any _ _).mono ?_
  rw [HS.out]
  rintro e w2 ⟨rfl, rfl⟩
  go_wp2_with fail
  refine (put_any 2 l.length _).mono ?_
  rw [← HS2.out]
  rintro e w2 ⟨A2, c2, rfl, hown2, hb2⟩
  have hbb2 := bt hbb1 hb2
  have hz2 := hbb2.size
  go_wp2_with (at_make; refine wpList_make_bytes _ rfl _ _ rfl w.heap.size .i64 .i64 _ _ 64 rfl rfl rfl rfl (by omega) hz2 ?_; intro w3 hown3 hb3 hz3)
  have hz23 : w.heap.size ≤ w2.heap.size := hz2
  have hr3 : Rd w3 A l := (hr.below hbb2).below hb3
  have ho2 := hown2.below hb3
  have ho1 := (hown1.below hb2).below hb3
  have hB3 : BB w3 w2.heap.size (List.replicate 64 0) := hown3.bb (by simp)
  have hbb3 : Below w.heap.size w w3 := bt hbb2 hb3
  have hlit := rdl_lit w3 22 [(A2, c2, S2), (A1, c1, L), (A, c, l)] (by
    intro x hx
    simp at hx
    rcases hx with rfl | rfl | rfl
    · exact ho2.rd
    · exact ho1.rd
    · exact hr3)
  rw [hz3] at hlit
  have hfl : [S2, L, l].flatten.length ≤ 140737488355328 := by rw [HPJ.out, HPl.out]; omega
  refine (join_any (some ⟨w2.heap.size + 1, 0, none⟩) 3 [S2, L, l] _ hlit (Nat.le_refl _) (by unfold maxLen; omega) hfl).mono ?_
  rw [HPJ.out]
  rintro e w4 ⟨A4, c4, rfl, hown4, hb4⟩
  have hB4 : BB w4 w2.heap.size (List.replicate 64 0) := (Blk.alloc hB3 _).bel hb4
  have hbb4 := bt (bal hbb3 _) hb4
  have HMIN : Hid (P.length = Nat.min P.length 64) := Lib.hid (Nat.min_eq_left (by rw [HPl.out]; omega)).symm
  have hfit : 0 + P.length ≤ (List.replicate 64 (0 : UInt8)).length := by rw [HPl.out]; simp; omega
  have hr4 := hown4.rd
  clear hb1 hb2 hb3 hb4 hown1 hown2 hown3 ho1 ho2 hr3 hlit hB3 hbb1 hbb2 hbb3 hfl hz3
  go_wp2_with (with_reducible refine wpList_copy_bytes _ rfl (.tmp 44) (.tmp 49) rfl _ _ 64 64 _ _ rfl rfl w2.heap.size 0 (List.replicate 64 0) hB4 P HMIN.out (fun _ => rfl) hr4 hfit ?_; intro w5 hB5 hb5)
  rw [splice_zero] at hB5
  have hz24 : w2.heap.size ≤ w4.heap.size := by have := Blk.lt hB4; omega
  have hbb5 : Below w.heap.size w w5 := hbb4.trans (hb5.mono hz23)
  have hrQ : Rd w5 (some ⟨w2.heap.size, 0, none⟩) Q := by
    have h := hB5.rd.take (64 - 4)
    rw [pad_take 64 P (by rw [HPl.out]; omega), ← HQ.out] at h
    exact h
  refine (sum_any (some ⟨w2.heap.size, 0, none⟩) 64 Q 60 _ hrQ (by rw [HQl.out]; decide) HQl.out.symm).mono ?_
  rw [← HU.out]
  rintro e w6 ⟨rfl, hb6⟩
  have hB6 : BB w6 w2.heap.size (padL 64 P) := Blk.bel hB5 hb6
  have hbb6 := bt hbb5 hb6
  clear hb5 hb6 hrQ hB4 hr4 hown4 hbb4 hbb5
  go_wp2_with fail
  refine (put_any 4 u _).mono ?_
  rw [← HS4.out]
  rintro e w7 ⟨A7, c7, rfl, hown7, hb7⟩
  have hB7 : BB w7 w2.heap.size (padL 64 P) := Blk.bel hB6 hb7
  have hbb7 := bt hbb6 hb7
  have HMIN2 : Hid (S4.length = Nat.min S4.length 4) := Lib.hid (Nat.min_eq_left (by rw [HS4l.out]; omega)).symm
  have hfit2 : 60 + S4.length ≤ (padL 64 P).length := by rw [padL_length _ _ (by rw [HPl.out]; omega), HS4l.out]; omega
  have hr7 := hown7.rd
  clear hb7 hown7 hB6
  go_wp2_with (with_reducible refine wpList_copy_bytes _ rfl (.tmp 65) (.tmp 66) rfl _ _ 4 4 _ _ rfl rfl w2.heap.size 60 (padL 64 P) hB7 S4 HMIN2.out (fun _ => rfl) hr7 hfit2 ?_; intro w8 hB8 hb8)
  have hB9 : BB w8 w2.heap.size (Q ++ S4) := by
    have h := splice_sum 64 P S4 (by rw [HPl.out]; omega) HS4l.out
    rw [← HQ.out] at h
    rw [← h]
    exact hB8
  go_ret2
  exact retBI_mk (by rw [List.length_append, HQl.out, HS4l.out]) (hB9.own hz23 (by rw [List.length_append, HQl.out, HS4l.out]) (by rw [List.length_append, HQl.out, HS4l.out]; decide)) (hbb7.trans (hb8.mono hz23))
set_option maxHeartbeats 1000000 in
theorem seal_2_2 (rp rg pl ix ic : Int) (A : Option Addr) (c : Nat) (l : List UInt8) (w : World) (hm : mayB rp rg pl ix ic = true) (hl : 88 < l.length) : Calls Tryd.prog 16 #[.agg #[.int .i64 rp, .int .i64 rg, .int .i64 pl, .int .i64 ix, .int .i64 ic], .slice A l.length c, .int .i64 2] w (RetBI w [] 3) := by
  have HL : Hid (tagE rp rg pl ix ic = 0) := Lib.hid (by simp [tagE, hm])
  have HS : Hid (roomI 2 = 88) := Lib.hid rfl
  have g : (88 : Int) < l.length := by omega
  clear hm hl
  go_enter Tryd.func16, Tryd.ntmps16
  go_wp2_with fail
  refine (print_any _ _ _ _ _ _).mono ?_
  rw [HL.out]
  rintro e w1 ⟨A1, c1, rfl, hown1, hb1⟩
  go_wp2_with fail
  refine (room_any _ _).mono ?_
  rw [HS.out]
  rintro e w2 ⟨rfl, rfl⟩
  go_wp2_with fail
  refine (room_any _ _).mono ?_
  rw [HS.out]
  rintro e w2 ⟨rfl, rfl⟩
  go_wp2_with fail
  go_ret2
  exact ⟨none, 0, rfl, Own.none_ _ _, bac hb1⟩
set_option maxHeartbeats 4000000 in
theorem seal_3_2 (rp rg pl ix ic : Int) (A : Option Addr) (c : Nat) (l : List UInt8) (w : World) (hr : Rd w A l) (hm : mayB rp rg pl ix ic = true) (hl : l.length ≤ 88) : Calls Tryd.prog 16 #[.agg #[.int .i64 rp, .int .i64 rg, .int .i64 pl, .int .i64 ix, .int .i64 ic], .slice A l.length c, .int .i64 2] w (RetBI w (frmL 128 (tagL rp rg pl ix ic) l) 0) := by
  have HL : Hid (tagE rp rg pl ix ic = 0) := Lib.hid (by simp [tagE, hm])
  have HS : Hid (roomI 2 = 88) := Lib.hid rfl
  have g : decide ((88 : Int) < l.length) = false := decide_eq_false (by omega)
  obtain ⟨L, HLL⟩ : ∃ L, Hid (L = tagL rp rg pl ix ic) := ⟨_, Lib.hid rfl⟩
  have hL15 : L.length = 15 := by rw [HLL.out, tagL_length, hm]; rfl
  rw [← HLL.out]
  obtain ⟨S2, HS2⟩ : ∃ L, Hid (L = putL 2 l.length) := ⟨_, Lib.hid rfl⟩
  have hS2 : S2.length = 2 := by rw [HS2.out, putL_two (by omega) (by omega), leB_length]
  obtain ⟨P, HP⟩ : ∃ P, Hid (P = preL L l) := ⟨_, Lib.hid rfl⟩
  have hPl : P.length = 17 + l.length := by rw [HP.out]; exact preL_length _ _ hL15 (by omega)
  have HPJ : Hid ([S2, L, l].flatten = P) := Lib.hid (by rw [HP.out, preL, HS2.out]; simp)
  obtain ⟨Q, HQ⟩ : ∃ Q, Hid (Q = padL (128 - 4) P) := ⟨_, Lib.hid rfl⟩
  have hQl : Q.length = 124 := by rw [HQ.out, padL_length _ _ (by omega)]
  obtain ⟨u, HU⟩ : ∃ u, Hid (u = sum Q) := ⟨_, Lib.hid rfl⟩
  have hu : u < 4294967296 := by rw [HU.out]; exact sum_lt _
  obtain ⟨S4, HS4⟩ : ∃ L, Hid (L = putL 4 u) := ⟨_, Lib.hid rfl⟩
  have hS4 : S4.length = 4 := by rw [HS4.out, putL_four (by omega) (by omega), leB_length]
  have HF : Hid (frmL 128 L l = Q ++ S4) := Lib.hid (by rw [frmL, ← HP.out, ← HQ.out, ← HU.out, HS4.out])
  rw [HF.out]
  have HT : Hid (mayB rp rg pl ix ic = true) := Lib.hid hm
  have hl47 : l.length ≤ 88 := hl
  clear hm hl
  have HL15 := Lib.hid hL15
  have HS2l := Lib.hid hS2
  have HPl := Lib.hid hPl
  have HQl := Lib.hid hQl
  have HS4l := Lib.hid hS4
  clear hL15 hS2 hPl hQl hS4
  go_enter Tryd.func16, Tryd.ntmps16
  go_wp2_with fail
  refine (print_any _ _ _ _ _ _).mono ?_
  rw [HL.out, ← HLL.out]
  rintro e w1 ⟨A1, c1, rfl, hown1, hb1⟩
  have hbb1 := bac hb1
  go_wp2_with fail
  refine (room_any _ _).mono ?_
  rw [HS.out]
  rintro e w2 ⟨rfl, rfl⟩
  go_wp2_with fail
  refine (room_any _ _).mono ?_
  rw [HS.out]
  rintro e w2 ⟨rfl, rfl⟩
  go_wp2_with fail
  refine (put_any 2 l.length _).mono ?_
  rw [← HS2.out]
  rintro e w2 ⟨A2, c2, rfl, hown2, hb2⟩
  have hbb2 := bt hbb1 hb2
  have hz2 := hbb2.size
  go_wp2_with (at_make; refine wpList_make_bytes _ rfl _ _ rfl w.heap.size .i64 .i64 _ _ 128 rfl rfl rfl rfl (by omega) hz2 ?_; intro w3 hown3 hb3 hz3)
  have hz23 : w.heap.size ≤ w2.heap.size := hz2
  have hr3 : Rd w3 A l := (hr.below hbb2).below hb3
  have ho2 := hown2.below hb3
  have ho1 := (hown1.below hb2).below hb3
  have hB3 : BB w3 w2.heap.size (List.replicate 128 0) := hown3.bb (by simp)
  have hbb3 : Below w.heap.size w w3 := bt hbb2 hb3
  have hlit := rdl_lit w3 22 [(A2, c2, S2), (A1, c1, L), (A, c, l)] (by
    intro x hx
    simp at hx
    rcases hx with rfl | rfl | rfl
    · exact ho2.rd
    · exact ho1.rd
    · exact hr3)
  rw [hz3] at hlit
  have hfl : [S2, L, l].flatten.length ≤ 140737488355328 := by rw [HPJ.out, HPl.out]; omega
  refine (join_any (some ⟨w2.heap.size + 1, 0, none⟩) 3 [S2, L, l] _ hlit (Nat.le_refl _) (by unfold maxLen; omega) hfl).mono ?_
  rw [HPJ.out]
  rintro e w4 ⟨A4, c4, rfl, hown4, hb4⟩
  have hB4 : BB w4 w2.heap.size (List.replicate 128 0) := (Blk.alloc hB3 _).bel hb4
  have hbb4 := bt (bal hbb3 _) hb4
  have HMIN : Hid (P.length = Nat.min P.length 128) := Lib.hid (Nat.min_eq_left (by rw [HPl.out]; omega)).symm
  have hfit : 0 + P.length ≤ (List.replicate 128 (0 : UInt8)).length := by rw [HPl.out]; simp; omega
  have hr4 := hown4.rd
  clear hb1 hb2 hb3 hb4 hown1 hown2 hown3 ho1 ho2 hr3 hlit hB3 hbb1 hbb2 hbb3 hfl hz3
  go_wp2_with (with_reducible refine wpList_copy_bytes _ rfl (.tmp 44) (.tmp 49) rfl _ _ 128 128 _ _ rfl rfl w2.heap.size 0 (List.replicate 128 0) hB4 P HMIN.out (fun _ => rfl) hr4 hfit ?_; intro w5 hB5 hb5)
  rw [splice_zero] at hB5
  have hz24 : w2.heap.size ≤ w4.heap.size := by have := Blk.lt hB4; omega
  have hbb5 : Below w.heap.size w w5 := hbb4.trans (hb5.mono hz23)
  have hrQ : Rd w5 (some ⟨w2.heap.size, 0, none⟩) Q := by
    have h := hB5.rd.take (128 - 4)
    rw [pad_take 128 P (by rw [HPl.out]; omega), ← HQ.out] at h
    exact h
  refine (sum_any (some ⟨w2.heap.size, 0, none⟩) 128 Q 124 _ hrQ (by rw [HQl.out]; decide) HQl.out.symm).mono ?_
  rw [← HU.out]
  rintro e w6 ⟨rfl, hb6⟩
  have hB6 : BB w6 w2.heap.size (padL 128 P) := Blk.bel hB5 hb6
  have hbb6 := bt hbb5 hb6
  clear hb5 hb6 hrQ hB4 hr4 hown4 hbb4 hbb5
  go_wp2_with fail
  refine (put_any 4 u _).mono ?_
  rw [← HS4.out]
  rintro e w7 ⟨A7, c7, rfl, hown7, hb7⟩
  have hB7 : BB w7 w2.heap.size (padL 128 P) := Blk.bel hB6 hb7
  have hbb7 := bt hbb6 hb7
  have HMIN2 : Hid (S4.length = Nat.min S4.length 4) := Lib.hid (Nat.min_eq_left (by rw [HS4l.out]; omega)).symm
  have hfit2 : 124 + S4.length ≤ (padL 128 P).length := by rw [padL_length _ _ (by rw [HPl.out]; omega), HS4l.out]; omega
  have hr7 := hown7.rd
  clear hb7 hown7 hB6
  go_wp2_with (with_reducible refine wpList_copy_bytes _ rfl (.tmp 65) (.tmp 66) rfl _ _ 4 4 _ _ rfl rfl w2.heap.size 124 (padL 128 P) hB7 S4 HMIN2.out (fun _ => rfl) hr7 hfit2 ?_; intro w8 hB8 hb8)
  have hB9 : BB w8 w2.heap.size (Q ++ S4) := by
    have h := splice_sum 128 P S4 (by rw [HPl.out]; omega) HS4l.out
    rw [← HQ.out] at h
    rw [← h]
    exact hB8
  go_ret2
  exact retBI_mk (by rw [List.length_append, HQl.out, HS4l.out]) (hB9.own hz23 (by rw [List.length_append, HQl.out, HS4l.out]) (by rw [List.length_append, HQl.out, HS4l.out]; decide)) (hbb7.trans (hb8.mono hz23))
theorem seal_any (rp rg pl ix ic : Int) (A : Option Addr) (c : Nat) (l : List UInt8) (s : Int) (w : World) (hr : Rd w A l) : Calls Tryd.prog 16 #[.agg #[.int .i64 rp, .int .i64 rg, .int .i64 pl, .int .i64 ix, .int .i64 ic], .slice A l.length c, .int .i64 s] w (RetBI w (sealL rp rg pl ix ic l s) (sealE (mayB rp rg pl ix ic) l s)) := by
  cases hm : mayB rp rg pl ix ic
  · have e : sealE false l s = 2 := by simp [sealE]
    rw [sealL, hm, e]
    exact seal_0 rp rg pl ix ic A c l s w hm
  by_cases h0 : roomI s = 0
  · have e : sealE true l s = 2 := by simp [sealE, h0]
    rw [sealL, hm, e]
    exact seal_1 rp rg pl ix ic A c l s w hm h0
  rcases roomI_cases h0 with ⟨rfl, h1⟩ | ⟨rfl, h1⟩
  · by_cases hl : 43 < l.length
    · have e : sealE true l 1 = 3 := by unfold sealE; rw [h1, if_neg (by simp), if_pos (by omega)]
      rw [sealL, hm, e]
      exact seal_2_1 rp rg pl ix ic A c l w hm hl
    · have e : sealE true l 1 = 0 := by unfold sealE; rw [h1, if_neg (by simp), if_neg (by omega)]
      rw [sealL, hm, e]
      exact seal_3_1 rp rg pl ix ic A c l w hr hm (by omega)
  · by_cases hl : 88 < l.length
    · have e : sealE true l 2 = 3 := by unfold sealE; rw [h1, if_neg (by simp), if_pos (by omega)]
      rw [sealL, hm, e]
      exact seal_2_2 rp rg pl ix ic A c l w hm hl
    · have e : sealE true l 2 = 0 := by unfold sealE; rw [h1, if_neg (by simp), if_neg (by omega)]
      rw [sealL, hm, e]
      exact seal_3_2 rp rg pl ix ic A c l w hr hm (by omega)
end Go.Proofs.YtahfippapknolaaDoor
