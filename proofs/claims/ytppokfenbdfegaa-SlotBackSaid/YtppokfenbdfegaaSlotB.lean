/-
  THE WALKS OF slot/slot.go AND ITS REFERENCE: Parse.
-/
import Derived.Test.YtppokfenbdfegaaSlotA
import Derived.Deep.RegionHeld3
import Derived.IntWalk
namespace Go.Proofs.Ytppokfenbdfegaa
open Go.RowKit
set_option linter.unusedVariables false

/-- what is read of a record's body -/
def sloR (l : List UInt8) : Value := .tuple #[.agg #[.int .i64 (sloF l 0 6), .int .i64 (sloF l 6 1)], .int .i64 (sloF l 7 1), .int .i64 (sloX l)]
theorem sloR_none {l : List UInt8} (h : sloP l = false) : sloR l = .tuple #[.agg #[.int .i64 0, .int .i64 0], .int .i64 0, .int .i64 90] := by
  obtain ⟨a, b, c, d⟩ := slo_none h
  simp [sloR, a, b, c, d]
theorem sloR_some {l : List UInt8} (h : sloP l = true) : sloR l = .tuple #[.agg #[.int .i64 (getN l 0 6), .int .i64 (getN l 6 1)], .int .i64 (getN l 7 1), .int .i64 0] := by
  obtain ⟨a, b, c, d⟩ := slo_some h
  simp [sloR, a, b, c, d]
theorem sloP_len {l : List UInt8} (h : l.length ≠ 8) : sloP l = false := by unfold sloP; rw [decide_eq_false h]; rfl
theorem getE6 {l : List UInt8} : getE l 0 6 = if l.length < 6 then 10 else 0 := by
  unfold getE
  rw [show isWidth 6 = true from rfl, if_neg (by simp), if_neg (by omega)]
  by_cases h : l.length < 6
  · rw [if_pos h, if_pos (by omega)]
  · rw [if_neg h, if_neg (by omega)]

set_option maxHeartbeats 2000000 in
theorem sparse_no (A : Option Addr) (c : Nat) (l : List UInt8) (w : World) (hr : Rd w A l) (hc : l.length ≤ c) (hm : c ≤ maxLen) (h8 : l.length ≠ 8) : Calls Try.prog 10 #[.slice A l.length c] w (RetV w (sloR l)) := by
  rw [sloR_none (sloP_len h8)]
  obtain ⟨E, HE⟩ : ∃ E, Hid (E = getE l 0 6) := ⟨_, Lib.hid rfl⟩
  have hm' := hm
  unfold maxLen at hm'
  by_cases h6 : l.length < 6
  · have e1 : (E != 0) = true := by rw [HE.out, getE6, if_pos h6]; rfl
    clear h6 h8
    go_enter Try.func10, Try.ntmps10
    go_wp2_with fail
    refine (get_any A c l 0 6 _ (hr.alloc _) hc hm).mono ?_
    rw [← HE.out]
    rintro e w1 ⟨rfl, hb⟩
    have B := (Blk.new w 23 #[.int .i64 0, .int .i64 0]).bel hb
    have c0 := B.c 0 (.int .i64 0) rfl
    have c1 := B.c 1 (.int .i64 0) rfl
    have f0 := B.frozen
    go_wp2_with fail
    refine bodyPost_ret (v := .tuple #[.agg #[.int .i64 0, .int .i64 0], .int .i64 0, .int .i64 90]) (by simp [results, Try.results10, go_sem, c0, c1]) rfl ⟨rfl, ?_⟩
    exact ((bac hb).setCell (Nat.le_refl _) _).setCell (Nat.le_refl _) _
  · have e1 : (E != 0) = false := by rw [HE.out, getE6, if_neg h6]; rfl
    have HP : Hid (getP l 0 6 = 6) := Lib.hid (by unfold getP; rw [getE6, if_neg h6, if_pos rfl]; rfl)
    have e2 : ((l.length : Int) != 8) = true := by rw [bne_iff_ne]; omega
    clear h6 h8
    go_enter Try.func10, Try.ntmps10
    go_wp2_with fail
    refine (get_any A c l 0 6 _ (hr.alloc _) hc hm).mono ?_
    rw [← HE.out, HP.out]
    rintro e w1 ⟨rfl, hb⟩
    have B := (Blk.new w 23 #[.int .i64 0, .int .i64 0]).bel hb
    have c0 := B.c 0 (.int .i64 0) rfl
    have c1 := B.c 1 (.int .i64 0) rfl
    have f0 := B.frozen
    go_wp2_with fail
    refine bodyPost_ret (v := .tuple #[.agg #[.int .i64 0, .int .i64 0], .int .i64 0, .int .i64 90]) (by simp [results, Try.results10, go_sem, c0, c1]) rfl ⟨rfl, ?_⟩
    exact ((bac hb).setCell (Nat.le_refl _) _).setCell (Nat.le_refl _) _

set_option maxHeartbeats 2000000 in
theorem sparse_yes (A : Option Addr) (c : Nat) (l : List UInt8) (w : World) (hr : Rd w A l) (hc : l.length ≤ c) (hm : c ≤ maxLen) (h8 : l.length = 8) : Calls Try.prog 10 #[.slice A l.length c] w (RetV w (sloR l)) := by
  have HE : Hid (getE l 0 6 = 0) := Lib.hid (by rw [getE6, if_neg (by omega)])
  have HP : Hid (getP l 0 6 = 6) := Lib.hid (by unfold getP; rw [HE.out, if_pos rfl]; rfl)
  obtain ⟨x0, X0⟩ : ∃ x, Hid (x = getN l 0 6) := ⟨_, Lib.hid rfl⟩
  obtain ⟨b, o, rfl, hcl⟩ := hr.at_ (k := 0) (by omega)
  obtain ⟨y6, g6, k6, Y6⟩ := rd_byte hcl 6 (by omega)
  obtain ⟨y7, g7, k7, Y7⟩ := rd_byte hcl 7 (by omega)
  have hblk := World.block_lt_of_cell? w _ k6
  clear hcl
  have HX : ∀ q : Bool, sloB x0 y6 y7 = q → sloP l = q := fun q hq => by
    unfold sloP
    have e6 := Y6.out
    have e7 := Y7.out
    rw [← X0.out, show (6 : Int) = ((6 : Nat) : Int) from rfl, show (7 : Int) = ((7 : Nat) : Int) from rfl, ← e6, ← e7, hq, decide_eq_true h8, Bool.true_and]
  have HL : Hid (8 = l.length) := Lib.hid h8.symm
  have HX := Lib.hid HX
  have hw6 : IntKind.i64.wrap (y6 : Int) = y6 := IntWalk.i64_in _ (by omega)
  have hw7 : IntKind.i64.wrap (y7 : Int) = y7 := IntWalk.i64_in _ (by omega)
  have hx7 : IntKind.i64.wrap 7 = 7 := IntWalk.i64_in _ (by omega)
  rw [h8]
  clear h8
  cases hs : sloB x0 y6 y7
  · have HR : Hid (sloR l = .tuple #[.agg #[.int .i64 0, .int .i64 0], .int .i64 0, .int .i64 90]) := Lib.hid (by
      have hq := HX.out _ hs
      exact sloR_none hq)
    have HS := Lib.hid hs
    clear hs
    go_enter Try.func10, Try.ntmps10
    go_wp2_with fail
    refine (get_n (some ⟨b, o, none⟩) c l 8 0 6 _ (hr.alloc _) hc hm HL.out).mono ?_
    rw [← X0.out, HE.out, HP.out]
    rintro e w1 ⟨rfl, hb⟩
    have B := (Blk.new w 23 #[.int .i64 0, .int .i64 0]).bel hb
    have hbb := bac hb
    have j6 := (hbb.cell (p := ⟨b, o + 6, none⟩) hblk).trans k6
    have j7 := (hbb.cell (p := ⟨b, o + 7, none⟩) hblk).trans k7
    go_wp2_with fail
    go_region_held3 (fun w' => w'.cell? ⟨b, o + 6, none⟩ = some (.int .u8 y6) ∧ w'.cell? ⟨b, o + 7, none⟩ = some (.int .u8 y7)) (go_keep) (first | fail)
    have B2 := (B.alloc (.cells #[.int .i64 x0, .int .i64 y6] 23)).drew
    have C2 := (Blk.new w1 23 #[.int .i64 x0, .int .i64 y6]).drew
    have hbb2 := (bal hbb (.cells #[.int .i64 x0, .int .i64 y6] 23)).drew
    have d0 := C2.c 0 (.int .i64 x0) rfl
    have d1 := C2.c 1 (.int .i64 y6) rfl
    clear j6 j7
    go_wp2_with fail
    refine (sprint_of _ HS.out _).mono ?_
    rintro e w2 ⟨A2, c2, rfl, hown2, hb2⟩
    have B3 := B2.bel hb2
    have C3 := C2.bel hb2
    have hbb3 := bt hbb2 hb2
    clear d0 d1 hown2 hb2
    have c0 := B3.c 0 (.int .i64 0) rfl
    have c1 := B3.c 1 (.int .i64 0) rfl
    have d0 := C3.c 0 (.int .i64 x0) rfl
    have d1 := C3.c 1 (.int .i64 y6) rfl
    have f0 := B3.frozen
    go_wp2_with fail
    refine bodyPost_ret (v := .tuple #[.agg #[.int .i64 0, .int .i64 0], .int .i64 0, .int .i64 90]) (by simp [results, Try.results10, go_sem, c0, c1]) rfl ⟨by rw [HR.out], ?_⟩
    exact (hbb3.setCell (Nat.le_refl _) _).setCell (Nat.le_refl _) _
  · have HR : Hid (sloR l = .tuple #[.agg #[.int .i64 x0, .int .i64 y6], .int .i64 y7, .int .i64 0]) := Lib.hid (by
      have hq := HX.out _ hs
      have h := sloR_some hq
      have e6 := Y6.out
      have e7 := Y7.out
      rw [← X0.out, show (6 : Int) = ((6 : Nat) : Int) from rfl, show (7 : Int) = ((7 : Nat) : Int) from rfl, ← e6, ← e7] at h
      exact h)
    have HS := Lib.hid hs
    clear hs
    go_enter Try.func10, Try.ntmps10
    go_wp2_with fail
    refine (get_n (some ⟨b, o, none⟩) c l 8 0 6 _ (hr.alloc _) hc hm HL.out).mono ?_
    rw [← X0.out, HE.out, HP.out]
    rintro e w1 ⟨rfl, hb⟩
    have B := (Blk.new w 23 #[.int .i64 0, .int .i64 0]).bel hb
    have hbb := bac hb
    have j6 := (hbb.cell (p := ⟨b, o + 6, none⟩) hblk).trans k6
    have j7 := (hbb.cell (p := ⟨b, o + 7, none⟩) hblk).trans k7
    go_wp2_with fail
    go_region_held3 (fun w' => w'.cell? ⟨b, o + 6, none⟩ = some (.int .u8 y6) ∧ w'.cell? ⟨b, o + 7, none⟩ = some (.int .u8 y7)) (go_keep) (first | fail)
    have B2 := (B.alloc (.cells #[.int .i64 x0, .int .i64 y6] 23)).drew
    have C2 := (Blk.new w1 23 #[.int .i64 x0, .int .i64 y6]).drew
    have hbb2 := (bal hbb (.cells #[.int .i64 x0, .int .i64 y6] 23)).drew
    have d0 := C2.c 0 (.int .i64 x0) rfl
    have d1 := C2.c 1 (.int .i64 y6) rfl
    clear j6 j7
    go_wp2_with fail
    refine (sprint_of _ HS.out _).mono ?_
    rintro e w2 ⟨A2, c2, rfl, hown2, hb2⟩
    have B3 := B2.bel hb2
    have C3 := C2.bel hb2
    have hbb3 := bt hbb2 hb2
    clear d0 d1 hown2 hb2
    have c0 := B3.c 0 (.int .i64 0) rfl
    have c1 := B3.c 1 (.int .i64 0) rfl
    have d0 := C3.c 0 (.int .i64 x0) rfl
    have d1 := C3.c 1 (.int .i64 y6) rfl
    have f0 := B3.frozen
    go_wp2_with fail
    refine bodyPost_ret (v := .tuple #[.agg #[.int .i64 x0, .int .i64 y6], .int .i64 y7, .int .i64 0]) (by simp [results, Try.results10, go_sem, c0, c1]) rfl ⟨by rw [HR.out], ?_⟩
    exact (hbb3.setCell (Nat.le_refl _) _).setCell (Nat.le_refl _) _
theorem sparse_any (A : Option Addr) (c : Nat) (l : List UInt8) (w : World) (hr : Rd w A l) (hc : l.length ≤ c) (hm : c ≤ maxLen) : Calls Try.prog 10 #[.slice A l.length c] w (RetV w (sloR l)) := by
  by_cases h8 : l.length = 8
  · exact sparse_yes A c l w hr hc hm h8
  · exact sparse_no A c l w hr hc hm h8
end Go.Proofs.Ytppokfenbdfegaa
