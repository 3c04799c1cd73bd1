/-
  THE WALKS OF THE REFERENCE's tags: Print, Parse.
-/
import Derived.Test.YtahfippapknolaaDoorTagG
import Derived.Deep.RegionHeld3
import Derived.IntWalk
namespace Go.Proofs.YtahfippapknolaaDoor
open Go.RowKit
set_option linter.unusedVariables false

theorem tagL_cons {rp rg pl ix ic : Int} (h : mayB rp rg pl ix ic = true) : tagL rp rg pl ix ic = ([UInt8.ofNat rp.toNat, UInt8.ofNat rg.toNat, UInt8.ofNat pl.toNat] ++ putL 6 ix) ++ putL 6 ic := by
  have hb := mayB_true h
  rw [putL_six (n := ix) (by omega) (by omega), putL_six (n := ic) (by omega) (by omega)]
  unfold tagL
  rw [h]
  simp [tagPs, leB]

set_option maxHeartbeats 4000000 in
theorem rprint_true (rp rg pl ix ic : Int) (w : World) (hm : mayB rp rg pl ix ic = true) : Calls Tryd.prog 41 #[.agg #[.int .i64 rp, .int .i64 rg, .int .i64 pl, .int .i64 ix, .int .i64 ic]] w (RetBI w (([UInt8.ofNat rp.toNat, UInt8.ofNat rg.toNat, UInt8.ofNat pl.toNat] ++ putL 6 ix) ++ putL 6 ic) 0) := by
  obtain ⟨L, HL⟩ : ∃ L, Hid (L = [UInt8.ofNat rp.toNat, UInt8.ofNat rg.toNat, UInt8.ofNat pl.toNat]) := ⟨_, Lib.hid rfl⟩
  rw [← HL.out]
  have HL3 : Hid (3 = L.length) := Lib.hid (by rw [HL.out]; rfl)
  have q3 := putL_length6 6 ix
  have q4 := putL_length6 6 ic
  have hA : L.length + (putL 6 ix).length ≤ 140737488355328 := by rw [← HL3.out]; omega
  have hB : (L ++ putL 6 ix).length + (putL 6 ic).length ≤ 140737488355328 := by rw [List.length_append, ← HL3.out]; omega
  have HE : Hid (L.length + (putL 6 ix).length = (L ++ putL 6 ix).length) := Lib.hid List.length_append.symm
  obtain ⟨a0, a1, a2, a3, a4, _, a5, a6, a7, a8, a9⟩ := mayB_true hm
  have HM := Lib.hid hm
  clear hm
  go_enter Tryd.func41, Tryd.ntmps41
  go_wp2_with fail
  refine (rmay_any _ _ _ _ _ _).mono ?_
  rw [HM.out]
  rintro e w1 ⟨rfl, hb1⟩
  have hz : w.heap.size < w1.heap.size := by have := hb1.size; simp at this; omega
  have hbb : Below w.heap.size w w1 := ((Below.refl _ _).alloc (Nat.le_refl _) _).trans (hb1.mono (by simp))
  have B1 : Blk w1 w.heap.size 25 #[.int .i64 rp, .int .i64 rg, .int .i64 pl, .int .i64 ix, .int .i64 ic] := (hb1.block _ (by simp)).trans (Blk.new w _ _)
  have d0 := B1.c 0 (.int .i64 rp) rfl
  have d1 := B1.c 1 (.int .i64 rg) rfl
  have d2 := B1.c 2 (.int .i64 pl) rfl
  have d3 := B1.c 3 (.int .i64 ix) rfl
  clear hb1
  go_wp2_with fail
  refine (rput_any 6 ix _ (by omega)).mono ?_
  rintro e w2 ⟨A2, c2, rfl, hown2, hb2⟩
  have hown : Own w2 w.heap.size (some ⟨w1.heap.size, 0, none⟩) 3 L := by
    rw [HL.out]
    refine Own.below (own_lit w1 w.heap.size _ _ ?_ (by omega) (by simp [maxLen]) 3 rfl) hb2
    simp [bvs]
    omega
  have e4 := ((B1.alloc _).bel hb2).c 4 (.int .i64 ic) rfl
  have hbb2 : Below w.heap.size w w2 := (hbb.alloc (by omega) _).trans (hb2.mono (by simp; omega))
  go_wp2_with fail
  refine (rput_any 6 ic _ (by omega)).mono ?_
  rintro e w3 ⟨A3, c3, rfl, hown3, hb3⟩
  have hown' := hown.below hb3
  have hown2' := hown2.below hb3
  have hbb3 := bt hbb2 hb3
  have hz3 := hbb3.size
  have hlt12 : w1.heap.size < w2.heap.size := by have := hb2.size; simp at this; omega
  have hz32 := hb3.size
  go_wp2_with (first | (at_builtin; refine wpList_append_bytes _ rfl (.tmp 34) (.tmp 35) rfl w.heap.size _ 3 3 L rfl HL3.out hown' A2 _ c2 _ rfl rfl hown2'.rd hA hz3 ?_; intro A5 c5 w5 hown5 hb5 hg5; have hown3' := hown3.aside hg5 hlt12; have hz5 := (hbb3.trans hb5).size) | (at_builtin; refine wpList_append_bytes _ rfl (.tmp 37) (.tmp 38) rfl w.heap.size A5 _ c5 (L ++ putL 6 ix) rfl HE.out hown5 A3 _ c3 _ rfl rfl hown3'.rd hB hz5 ?_; intro A6 c6 w6 hown6 hb6 _))
  go_ret2
  exact retBI_mk (by simp only [List.length_append, Nat.add_assoc]) hown6 ((hbb3.trans hb5).trans hb6)

theorem rprint_any (rp rg pl ix ic : Int) (w : World) : Calls Tryd.prog 41 #[.agg #[.int .i64 rp, .int .i64 rg, .int .i64 pl, .int .i64 ix, .int .i64 ic]] w (RetBI w (tagL rp rg pl ix ic) (tagE rp rg pl ix ic)) := by
  cases hm : mayB rp rg pl ix ic
  · rw [show tagL rp rg pl ix ic = [] by simp [tagL, hm], show tagE rp rg pl ix ic = 2 by simp [tagE, hm]]
    have HM := Lib.hid hm
    clear hm
    go_enter Tryd.func41, Tryd.ntmps41
    go_wp2_with fail
    refine (rmay_any _ _ _ _ _ _).mono ?_
    rw [HM.out]
    rintro e w1 ⟨rfl, hb1⟩
    go_wp2_with fail
    go_ret2
    exact ⟨none, 0, rfl, Own.none_ _ _, ((Below.refl _ _).alloc (Nat.le_refl _) _).trans (hb1.mono (by simp))⟩
  · rw [tagL_cons hm, show tagE rp rg pl ix ic = 0 by simp [tagE, hm]]
    exact rprint_true rp rg pl ix ic w hm

set_option maxHeartbeats 1000000 in
theorem rparse_any (A : Option Addr) (c : Nat) (l : List UInt8) (w : World) (hr : Rd w A l) (hc : l.length ≤ maxLen) :
    Calls Tryd.prog 27 #[.slice A l.length c] w (RetV w (.tuple #[tagW l, .int .i64 (tagP l)])) := by
  by_cases hlen : l.length = 15
  · obtain ⟨x3, X3⟩ : ∃ x, Hid (x = getN l 3 6) := ⟨_, Lib.hid rfl⟩
    obtain ⟨x4, X4⟩ : ∃ x, Hid (x = getN l 9 6) := ⟨_, Lib.hid rfl⟩
    obtain ⟨b, o, rfl, hcl⟩ := hr.at_ (k := 0) (by omega)
    have hr0 := hr
    obtain ⟨y0, g0, k0, Y0⟩ := rd_byte hcl 0 (by omega)
    obtain ⟨y1, g1, k1, Y1⟩ := rd_byte hcl 1 (by omega)
    obtain ⟨y2, g2, k2, Y2⟩ := rd_byte hcl 2 (by omega)
    clear hcl
    rw [Nat.add_zero] at k0
    have hblk := World.block_lt_of_cell? w _ k0
    rw [hlen]
    have HL : Hid (15 = l.length) := Lib.hid hlen.symm
    have hc' : l.length ≤ maxLen := hc
    clear hlen
    go_enter Tryd.func27, Tryd.ntmps27
    go_wp2_with fail
    refine (rget_n (some ⟨b, o, none⟩) c l 15 3 6 _ (hr0.alloc _) hc' HL.out).mono ?_
    rw [← X3.out]
    rintro e w1 ⟨rfl, rfl⟩
    go_wp2_with fail
    refine (rget_n (some ⟨b, o, none⟩) c l 15 9 6 _ (hr0.alloc _) hc' HL.out).mono ?_
    rw [← X4.out]
    rintro e w1 ⟨rfl, rfl⟩
    go_wp2_with fail
    have hw0 : IntKind.i64.wrap (y0 : Int) = y0 := IntWalk.i64_in _ (by omega)
    have hw1 : IntKind.i64.wrap (y1 : Int) = y1 := IntWalk.i64_in _ (by omega)
    have hw2 : IntKind.i64.wrap (y2 : Int) = y2 := IntWalk.i64_in _ (by omega)
    go_region_held3 (fun w' => w'.cell? ⟨b, o, none⟩ = some (.int .u8 y0) ∧ w'.cell? ⟨b, o + 1, none⟩ = some (.int .u8 y1) ∧ w'.cell? ⟨b, o + 2, none⟩ = some (.int .u8 y2)) (go_keep) (first | fail)
    clear hw0 hw1 hw2
    cases hmay : mayB y0 y1 y2 x3 x4
    · have HR : Hid (tagW l = tagV 0 0 0 0 0 ∧ tagP l = 30) := Lib.hid (tagW_none (by unfold tagB; rw [← X3.out, ← X4.out]; have e0 := Y0.out; have e1 := Y1.out; have e2 := Y2.out; simp only [Int.natCast_zero, Int.natCast_one] at e0 e1; rw [← e0, ← e1, show (2 : Int) = ((2 : Nat) : Int) from rfl, ← e2, hmay, Bool.and_false]))
      have HM := Lib.hid hmay
      clear hmay
      go_wp2_with fail
      refine (rmay_any _ _ _ _ _ _).mono ?_
      rw [HM.out]
      rintro e w2 ⟨rfl, hb2⟩
      have B0s : Blk w2 w.heap.size 25 #[.int .i64 0, .int .i64 0, .int .i64 0, .int .i64 0, .int .i64 0] := (((Blk.new w 25 #[.int .i64 0, .int .i64 0, .int .i64 0, .int .i64 0, .int .i64 0]).alloc (.cells #[.int .i64 y0, .int .i64 y1, .int .i64 y2, .int .i64 x3, .int .i64 x4] 25)).drew).bel hb2
      have B2s : Blk w2 (w.heap.size + 1) 25 #[.int .i64 y0, .int .i64 y1, .int .i64 y2, .int .i64 x3, .int .i64 x4] := ((Blk.new' (w := w.alloc (.cells #[.int .i64 0, .int .i64 0, .int .i64 0, .int .i64 0, .int .i64 0] 25)) 25 #[.int .i64 y0, .int .i64 y1, .int .i64 y2, .int .i64 x3, .int .i64 x4] (by simp)).drew).bel hb2
      have hbs : Below w.heap.size w w2 := ((((Below.refl _ _).alloc (Nat.le_refl _) _).alloc (by simp) _).drew).trans (hb2.mono (by simp; omega))
      have c0 := B0s.c 0 (.int .i64 0) rfl
      have c1 := B0s.c 1 (.int .i64 0) rfl
      have c2 := B0s.c 2 (.int .i64 0) rfl
      have c3 := B0s.c 3 (.int .i64 0) rfl
      have c4 := B0s.c 4 (.int .i64 0) rfl
      have f0 := B0s.frozen
      have d0 := B2s.c 0 (.int .i64 y0) rfl
      have d1 := B2s.c 1 (.int .i64 y1) rfl
      have d2 := B2s.c 2 (.int .i64 y2) rfl
      have d3 := B2s.c 3 (.int .i64 x3) rfl
      have d4 := B2s.c 4 (.int .i64 x4) rfl
      go_wp2_with fail
      refine bodyPost_ret (v := .tuple #[.agg #[.int .i64 0, .int .i64 0, .int .i64 0, .int .i64 0, .int .i64 0], .int .i64 30]) (by simp [results, Tryd.results27, go_sem, c0, c1, c2, c3, c4]) rfl ⟨by rw [HR.out.1, HR.out.2]; rfl, ?_⟩
      exact (((((hbs.setCell (Nat.le_refl _) _).setCell (Nat.le_refl _) _).setCell (Nat.le_refl _) _).setCell (Nat.le_refl _) _).setCell (Nat.le_refl _) _)
    · have HT : Hid (tagB l = true) := Lib.hid (by unfold tagB; rw [← X3.out, ← X4.out]; have e0 := Y0.out; have e1 := Y1.out; have e2 := Y2.out; simp only [Int.natCast_zero, Int.natCast_one] at e0 e1; rw [← e0, ← e1, show (2 : Int) = ((2 : Nat) : Int) from rfl, ← e2, hmay, ← HL.out]; rfl)
      have HR : Hid (tagW l = tagV y0 y1 y2 x3 x4 ∧ tagP l = 0) := Lib.hid (by have h := tagW_some HT.out; have e0 := Y0.out; have e1 := Y1.out; have e2 := Y2.out; simp only [Int.natCast_zero, Int.natCast_one] at e0 e1; rw [← X3.out, ← X4.out, ← e0, ← e1, show (2 : Int) = ((2 : Nat) : Int) from rfl, ← e2] at h; exact h)
      have HM := Lib.hid hmay
      clear hmay
      go_wp2_with fail
      refine (rmay_any _ _ _ _ _ _).mono ?_
      rw [HM.out]
      rintro e w2 ⟨rfl, hb2⟩
      have B0s : Blk w2 w.heap.size 25 #[.int .i64 0, .int .i64 0, .int .i64 0, .int .i64 0, .int .i64 0] := (((Blk.new w 25 #[.int .i64 0, .int .i64 0, .int .i64 0, .int .i64 0, .int .i64 0]).alloc (.cells #[.int .i64 y0, .int .i64 y1, .int .i64 y2, .int .i64 x3, .int .i64 x4] 25)).drew).bel hb2
      have B2s : Blk w2 (w.heap.size + 1) 25 #[.int .i64 y0, .int .i64 y1, .int .i64 y2, .int .i64 x3, .int .i64 x4] := ((Blk.new' (w := w.alloc (.cells #[.int .i64 0, .int .i64 0, .int .i64 0, .int .i64 0, .int .i64 0] 25)) 25 #[.int .i64 y0, .int .i64 y1, .int .i64 y2, .int .i64 x3, .int .i64 x4] (by simp)).drew).bel hb2
      have hbs : Below w.heap.size w w2 := ((((Below.refl _ _).alloc (Nat.le_refl _) _).alloc (by simp) _).drew).trans (hb2.mono (by simp; omega))
      have c0 := B0s.c 0 (.int .i64 0) rfl
      have c1 := B0s.c 1 (.int .i64 0) rfl
      have c2 := B0s.c 2 (.int .i64 0) rfl
      have c3 := B0s.c 3 (.int .i64 0) rfl
      have c4 := B0s.c 4 (.int .i64 0) rfl
      have f0 := B0s.frozen
      have d0 := B2s.c 0 (.int .i64 y0) rfl
      have d1 := B2s.c 1 (.int .i64 y1) rfl
      have d2 := B2s.c 2 (.int .i64 y2) rfl
      have d3 := B2s.c 3 (.int .i64 x3) rfl
      have d4 := B2s.c 4 (.int .i64 x4) rfl
      go_wp2_with fail
      refine bodyPost_ret (v := .tuple #[.agg #[.int .i64 y0, .int .i64 y1, .int .i64 y2, .int .i64 x3, .int .i64 x4], .int .i64 0]) (by simp [results, Tryd.results27, go_sem, c0, c1, c2, c3, c4]) rfl ⟨by rw [HR.out.1, HR.out.2]; rfl, ?_⟩
      exact (((((hbs.setCell (Nat.le_refl _) _).setCell (Nat.le_refl _) _).setCell (Nat.le_refl _) _).setCell (Nat.le_refl _) _).setCell (Nat.le_refl _) _)
  · have hne : ((l.length : Int) != 15) = true := by rw [bne_iff_ne]; omega
    have HR : Hid (tagW l = tagV 0 0 0 0 0 ∧ tagP l = 30) := Lib.hid (tagW_none (by unfold tagB; rw [decide_eq_false hlen, Bool.false_and]))
    rw [HR.out.1, HR.out.2]
    unfold tagV
    clear hlen
    go_enter Tryd.func27, Tryd.ntmps27
    go_wp2_with fail
    refine bodyPost_ret (v := .tuple #[.agg #[.int .i64 0, .int .i64 0, .int .i64 0, .int .i64 0, .int .i64 0], .int .i64 30]) (by simp [results, Tryd.results27, go_sem]) rfl ⟨rfl, ?_⟩
    exact (Below.refl _ _).alloc (Nat.le_refl _) _
end Go.Proofs.YtahfippapknolaaDoor
