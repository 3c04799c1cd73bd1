/-
  THE WALK OF THE REFERENCE's Parse of a slot's record.
-/
import Derived.Test.YtppokfenbdfegaaSlotB
namespace Go.Proofs.Ytppokfenbdfegaa
open Go.RowKit
set_option linter.unusedVariables false

set_option maxHeartbeats 2000000 in
theorem rsparse_no (A : Option Addr) (c : Nat) (l : List UInt8) (w : World) (hr : Rd w A l) (hc : l.length ≤ maxLen) (h8 : l.length ≠ 8) : Calls Try.prog 11 #[.slice A l.length c] w (RetV w (sloR l)) := by
  rw [sloR_none (sloP_len h8)]
  have e2 : ((l.length : Int) != 8) = true := by rw [bne_iff_ne]; omega
  clear h8
  go_enter Try.func11, Try.ntmps11
  go_wp2_with fail
  refine bodyPost_ret (v := .tuple #[.agg #[.int .i64 0, .int .i64 0], .int .i64 0, .int .i64 90]) (by simp [results, Try.results11, go_sem]) rfl ⟨rfl, bal0 _ _⟩

set_option maxHeartbeats 2000000 in
theorem rsparse_yes (A : Option Addr) (c : Nat) (l : List UInt8) (w : World) (hr : Rd w A l) (hc : l.length ≤ maxLen) (h8 : l.length = 8) : Calls Try.prog 11 #[.slice A l.length c] w (RetV w (sloR l)) := by
  obtain ⟨x0, X0⟩ : ∃ x, Hid (x = getN l 0 6) := ⟨_, Lib.hid rfl⟩
  obtain ⟨b, o, rfl, hcl⟩ := hr.at_ (k := 0) (by omega)
  obtain ⟨y6, g6, k6, Y6⟩ := rd_byte hcl 6 (by omega)
  obtain ⟨y7, g7, k7, Y7⟩ := rd_byte hcl 7 (by omega)
  have hblk := World.block_lt_of_cell? w _ k6
  clear hcl
  have HX : ∀ q : Bool, sloB x0 y6 y7 = q → sloP l = q := fun q hq => by
    unfold sloP
    have e6 := Y6.out
    have e7 := Y7.out
    rw [← X0.out, show (6 : Int) = ((6 : Nat) : Int) from rfl, show (7 : Int) = ((7 : Nat) : Int) from rfl, ← e6, ← e7, hq, decide_eq_true h8, Bool.true_and]
  have HL : Hid (8 = l.length) := Lib.hid h8.symm
  have HX := Lib.hid HX
  have hw6 : IntKind.i64.wrap (y6 : Int) = y6 := IntWalk.i64_in _ (by omega)
  have hw7 : IntKind.i64.wrap (y7 : Int) = y7 := IntWalk.i64_in _ (by omega)
  rw [h8]
  clear h8
  by_cases hy : 1 < (y7 : Int)
  · rw [sloR_none (HX.out false (sloB_no (by omega)))]
    go_enter Try.func11, Try.ntmps11
    go_wp2_with fail
    refine bodyPost_ret (v := .tuple #[.agg #[.int .i64 0, .int .i64 0], .int .i64 0, .int .i64 90]) (by simp [results, Try.results11, go_sem]) rfl ⟨rfl, bal0 _ _⟩
  have hd : decide (1 < (y7 : Int)) = false := decide_eq_false hy
  cases hs : blB x0 y6
  · have hq := HX.out false (by unfold sloB; rw [hs]; rfl)
    have HR : Hid (sloR l = .tuple #[.agg #[.int .i64 0, .int .i64 0], .int .i64 0, .int .i64 90]) := Lib.hid (by
      exact sloR_none hq)
    have HS := Lib.hid hs
    clear hs hq
    go_enter Try.func11, Try.ntmps11
    go_wp2_with fail
    refine (rget_n (some ⟨b, o, none⟩) c l 8 0 6 _ (hr.alloc _) hc HL.out).mono ?_
    rw [← X0.out]
    rintro e w1 ⟨rfl, rfl⟩
    have B2 := (Blk.new w 23 #[.int .i64 0, .int .i64 0]).alloc (.cells #[.int .i64 x0, .int .i64 y6] 23)
    have C2 : Blk ((w.alloc (.cells #[.int .i64 0, .int .i64 0] 23)).alloc (.cells #[.int .i64 x0, .int .i64 y6] 23)) (w.heap.size + 1) 23 #[.int .i64 x0, .int .i64 y6] := Blk.new' _ _ (by simp)
    have hbb2 := bal (bal0 w (.cells #[.int .i64 0, .int .i64 0] 23)) (.cells #[.int .i64 x0, .int .i64 y6] 23)
    go_wp2_with fail
    refine (rballot_of HS.out _).mono ?_
    rintro e w2 ⟨rfl, hb2⟩
    have B3 := B2.bel hb2
    have C3 := C2.bel hb2
    have hbb3 := bt hbb2 hb2
    clear hb2
    have c0 := B3.c 0 (.int .i64 0) rfl
    have c1 := B3.c 1 (.int .i64 0) rfl
    have d0 := C3.c 0 (.int .i64 x0) rfl
    have d1 := C3.c 1 (.int .i64 y6) rfl
    have f0 := B3.frozen
    have j7 := (hbb3.cell (p := ⟨b, o + 7, none⟩) hblk).trans k7
    go_wp2_with fail
    refine bodyPost_ret (v := .tuple #[.agg #[.int .i64 0, .int .i64 0], .int .i64 0, .int .i64 90]) (by simp [results, Try.results11, go_sem, c0, c1]) rfl ⟨by rw [HR.out], ?_⟩
    exact (hbb3.setCell (Nat.le_refl _) _).setCell (Nat.le_refl _) _
  · have hq := HX.out true (by unfold sloB; rw [hs, inB_mk (by omega) (by omega)]; rfl)
    have HR : Hid (sloR l = .tuple #[.agg #[.int .i64 x0, .int .i64 y6], .int .i64 y7, .int .i64 0]) := Lib.hid (by
      have h := sloR_some hq
      have e6 := Y6.out
      have e7 := Y7.out
      rw [← X0.out, show (6 : Int) = ((6 : Nat) : Int) from rfl, show (7 : Int) = ((7 : Nat) : Int) from rfl, ← e6, ← e7] at h
      exact h)
    have HS := Lib.hid hs
    clear hs hq
    go_enter Try.func11, Try.ntmps11
    go_wp2_with fail
    refine (rget_n (some ⟨b, o, none⟩) c l 8 0 6 _ (hr.alloc _) hc HL.out).mono ?_
    rw [← X0.out]
    rintro e w1 ⟨rfl, rfl⟩
    have B2 := (Blk.new w 23 #[.int .i64 0, .int .i64 0]).alloc (.cells #[.int .i64 x0, .int .i64 y6] 23)
    have C2 : Blk ((w.alloc (.cells #[.int .i64 0, .int .i64 0] 23)).alloc (.cells #[.int .i64 x0, .int .i64 y6] 23)) (w.heap.size + 1) 23 #[.int .i64 x0, .int .i64 y6] := Blk.new' _ _ (by simp)
    have hbb2 := bal (bal0 w (.cells #[.int .i64 0, .int .i64 0] 23)) (.cells #[.int .i64 x0, .int .i64 y6] 23)
    go_wp2_with fail
    refine (rballot_of HS.out _).mono ?_
    rintro e w2 ⟨rfl, hb2⟩
    have B3 := B2.bel hb2
    have C3 := C2.bel hb2
    have hbb3 := bt hbb2 hb2
    clear hb2
    have c0 := B3.c 0 (.int .i64 0) rfl
    have c1 := B3.c 1 (.int .i64 0) rfl
    have d0 := C3.c 0 (.int .i64 x0) rfl
    have d1 := C3.c 1 (.int .i64 y6) rfl
    have f0 := B3.frozen
    have j7 := (hbb3.cell (p := ⟨b, o + 7, none⟩) hblk).trans k7
    go_wp2_with fail
    have hne : w.heap.size ≠ b := by have : b < w.heap.size := hblk; omega
    go_region_held3 (fun w' => w'.cell? ⟨b, o + 7, none⟩ = some (.int .u8 y7) ∧ w'.cell? ⟨w.heap.size + 1, 0, none⟩ = some (.int .i64 x0) ∧ w'.cell? ⟨w.heap.size + 1, 1, none⟩ = some (.int .i64 y6)) (go_keep) (first | fail)
    go_wp2_with fail
    refine bodyPost_ret (v := .tuple #[.agg #[.int .i64 x0, .int .i64 y6], .int .i64 y7, .int .i64 0]) (by simp [results, Try.results11, go_sem, c0, c1]) rfl ⟨by rw [HR.out], ?_⟩
    exact ((hbb3.setCell (Nat.le_refl _) _).setCell (Nat.le_refl _) _).drew
theorem rsparse_any (A : Option Addr) (c : Nat) (l : List UInt8) (w : World) (hr : Rd w A l) (hc : l.length ≤ maxLen) : Calls Try.prog 11 #[.slice A l.length c] w (RetV w (sloR l)) := by
  by_cases h8 : l.length = 8
  · exact rsparse_yes A c l w hr hc h8
  · exact rsparse_no A c l w hr hc h8
end Go.Proofs.Ytppokfenbdfegaa
