/-
  THE WALKS OF tag/tag.go: Parse.
-/
import Derived.Test.YtahfippapknolaaDoorTagE
import Derived.Test.YtahfippapknolaaDoorBlk
namespace Go.Proofs.YtahfippapknolaaDoor
open Go.RowKit
set_option linter.unusedVariables false

def parr (x0 x1 x2 x3 x4 : Int) (k : Nat) : Array Value := #[.int .i64 (if 0 < k then x0 else 0), .int .i64 (if 1 < k then x1 else 0), .int .i64 (if 2 < k then x2 else 0), .int .i64 (if 3 < k then x3 else 0), .int .i64 (if 4 < k then x4 else 0)]
def zero5 : Array Value := #[.int .i64 0, .int .i64 0, .int .i64 0, .int .i64 0, .int .i64 0]
set_option maxHeartbeats 8000000 in
theorem parse_any (A : Option Addr) (c : Nat) (l : List UInt8) (w : World) (hr : Rd w A l) (hc : l.length ≤ c) (hm : c ≤ maxLen) :
    Calls Tryd.prog 22 #[.slice A l.length c] w (RetV w (.tuple #[tagW l, .int .i64 (tagP l)])) := by
  have i0 := ix0
  have i1 := ix1
  have i2 := ix2
  have i3 := ix3
  have i4 := ix4
  obtain ⟨x0, X0⟩ : ∃ x, Hid (x = getN l 0 1) := ⟨_, Lib.hid rfl⟩
  obtain ⟨x1, X1⟩ : ∃ x, Hid (x = getN l 1 1) := ⟨_, Lib.hid rfl⟩
  obtain ⟨x2, X2⟩ : ∃ x, Hid (x = getN l 2 1) := ⟨_, Lib.hid rfl⟩
  obtain ⟨x3, X3⟩ : ∃ x, Hid (x = getN l 3 6) := ⟨_, Lib.hid rfl⟩
  obtain ⟨x4, X4⟩ : ∃ x, Hid (x = getN l 9 6) := ⟨_, Lib.hid rfl⟩
  go_enter Tryd.func22, Tryd.ntmps22
  go_wp2_with fail
  refine (widths_any _).mono ?_
  rintro e w1 ⟨rfl, hb⟩
  have B0 : Blk w1 w.heap.size 25 zero5 := by
    refine (hb.block w.heap.size (by simp; omega)).trans ?_
    exact ((Blk.new w _ _).alloc _)
  have B1 : Blk w1 (w.heap.size + 1) 64 (parr x0 x1 x2 x3 x4 0) := by
    refine (hb.block (w.heap.size + 1) (by simp)).trans ?_
    exact Blk.new' _ _ (by simp)
  have hbb : Below w.heap.size w w1 := (((Below.refl _ _).alloc (Nat.le_refl _) _).alloc (by simp) _).trans (hb.mono (by simp; omega))
  clear hb
  go_wp2_with fail
  go_loopw [5, 13] (fun a i wr => ∃ k : Nat, k ≤ 5 ∧ i = .int .i64 k ∧ a = .int .i64 (pofs k) ∧ Hid (pofs k ≤ l.length) ∧ Blk wr w.heap.size 25 zero5 ∧ Blk wr (w.heap.size + 1) 64 (parr x0 x1 x2 x3 x4 k) ∧ Below w.heap.size w wr) (fun _ i _ => 5 - (intOf i).toNat)
  case atStart => exact ⟨0, by omega, rfl, rfl, Lib.hid (by simp [pofs]), B0, B1, hbb⟩
  case round =>
    obtain ⟨k, hk, rfl, rfl, HO, B0r, B1r, hbr⟩ := hrel
    clear B0 B1 hbb
    have hzr := B1r.lt
    by_cases h5 : k = 5
    · subst h5
      have e0 := B1r.c 0 (.int .i64 x0) rfl
      have e1 := B1r.c 1 (.int .i64 x1) rfl
      have e2 := B1r.c 2 (.int .i64 x2) rfl
      have e3 := B1r.c 3 (.int .i64 x3) rfl
      have e4 := B1r.c 4 (.int .i64 x4) rfl
      by_cases hlen : l.length = 15
      · have hne : (pofs 5 != (l.length : Int)) = false := by rw [hlen]; rfl
        cases hmay : mayB x0 x1 x2 x3 x4
        · have HR : Hid (tagW l = tagV 0 0 0 0 0 ∧ tagP l = 30) := Lib.hid (tagW_none (by unfold tagB; rw [← X0.out, ← X1.out, ← X2.out, ← X3.out, ← X4.out, hmay, Bool.and_false]))
          have HM := Lib.hid hmay
          clear hmay hlen
          go_wp2_with fail
          refine (may_any _ _ _ _ _ _).mono ?_
          rw [HM.out]
          rintro e w2 ⟨rfl, hb2⟩
          have B0s := (B0r.alloc (.cells #[.int .i64 x0, .int .i64 x1, .int .i64 x2, .int .i64 x3, .int .i64 x4] 25)).bel hb2
          have hbs := (hbr.alloc (by omega) (.cells #[.int .i64 x0, .int .i64 x1, .int .i64 x2, .int .i64 x3, .int .i64 x4] 25)).trans (hb2.mono (by simp; omega))
          have c0 := B0s.c 0 (.int .i64 0) rfl
          have c1 := B0s.c 1 (.int .i64 0) rfl
          have c2 := B0s.c 2 (.int .i64 0) rfl
          have c3 := B0s.c 3 (.int .i64 0) rfl
          have c4 := B0s.c 4 (.int .i64 0) rfl
          have f0 := B0s.frozen
          go_wp2_with fail
          refine bodyPost_ret (v := .tuple #[.agg #[.int .i64 0, .int .i64 0, .int .i64 0, .int .i64 0, .int .i64 0], .int .i64 30]) (by simp [results, Tryd.results22, go_sem, c0, c1, c2, c3, c4]) rfl ⟨by rw [HR.out.1, HR.out.2]; rfl, ?_⟩
          exact (((((hbs.setCell (Nat.le_refl _) _).setCell (Nat.le_refl _) _).setCell (Nat.le_refl _) _).setCell (Nat.le_refl _) _).setCell (Nat.le_refl _) _)
        · have HT : Hid (tagB l = true) := Lib.hid (by unfold tagB; rw [← X0.out, ← X1.out, ← X2.out, ← X3.out, ← X4.out, hmay, hlen]; rfl)
          have HR : Hid (tagW l = tagV x0 x1 x2 x3 x4 ∧ tagP l = 0) := Lib.hid (by have := tagW_some HT.out; rw [← X0.out, ← X1.out, ← X2.out, ← X3.out, ← X4.out] at this; exact this)
          have HM := Lib.hid hmay
          clear hmay hlen
          go_wp2_with fail
          refine (may_any _ _ _ _ _ _).mono ?_
          rw [HM.out]
          rintro e w2 ⟨rfl, hb2⟩
          have B0s := (B0r.alloc (.cells #[.int .i64 x0, .int .i64 x1, .int .i64 x2, .int .i64 x3, .int .i64 x4] 25)).bel hb2
          have B2s := (Blk.new wr 25 #[.int .i64 x0, .int .i64 x1, .int .i64 x2, .int .i64 x3, .int .i64 x4]).bel hb2
          have hbs := (hbr.alloc (by omega) (.cells #[.int .i64 x0, .int .i64 x1, .int .i64 x2, .int .i64 x3, .int .i64 x4] 25)).trans (hb2.mono (by simp; omega))
          have c0 := B0s.c 0 (.int .i64 0) rfl
          have c1 := B0s.c 1 (.int .i64 0) rfl
          have c2 := B0s.c 2 (.int .i64 0) rfl
          have c3 := B0s.c 3 (.int .i64 0) rfl
          have c4 := B0s.c 4 (.int .i64 0) rfl
          have f0 := B0s.frozen
          have d0 := B2s.c 0 (.int .i64 x0) rfl
          have d1 := B2s.c 1 (.int .i64 x1) rfl
          have d2 := B2s.c 2 (.int .i64 x2) rfl
          have d3 := B2s.c 3 (.int .i64 x3) rfl
          have d4 := B2s.c 4 (.int .i64 x4) rfl
          go_wp2_with fail
          refine bodyPost_ret (v := .tuple #[.agg #[.int .i64 x0, .int .i64 x1, .int .i64 x2, .int .i64 x3, .int .i64 x4], .int .i64 0]) (by simp [results, Tryd.results22, go_sem, c0, c1, c2, c3, c4]) rfl ⟨by rw [HR.out.1, HR.out.2]; rfl, ?_⟩
          exact (((((hbs.setCell (Nat.le_refl _) _).setCell (Nat.le_refl _) _).setCell (Nat.le_refl _) _).setCell (Nat.le_refl _) _).setCell (Nat.le_refl _) _)
      · have hne : (pofs 5 != (l.length : Int)) = true := by rw [bne_iff_ne]; show (15 : Int) ≠ _; omega
        have HR : Hid (tagW l = tagV 0 0 0 0 0 ∧ tagP l = 30) := Lib.hid (tagW_none (by unfold tagB; rw [decide_eq_false hlen, Bool.false_and]))
        clear hlen
        have B0s := B0r.alloc (.cells #[.int .i64 x0, .int .i64 x1, .int .i64 x2, .int .i64 x3, .int .i64 x4] 25)
        have c0 := B0s.c 0 (.int .i64 0) rfl
        have c1 := B0s.c 1 (.int .i64 0) rfl
        have c2 := B0s.c 2 (.int .i64 0) rfl
        have c3 := B0s.c 3 (.int .i64 0) rfl
        have c4 := B0s.c 4 (.int .i64 0) rfl
        have f0 := B0s.frozen
        have hbs := hbr.alloc (by omega) (.cells #[.int .i64 x0, .int .i64 x1, .int .i64 x2, .int .i64 x3, .int .i64 x4] 25)
        go_wp2_with fail
        refine bodyPost_ret (v := .tuple #[.agg #[.int .i64 0, .int .i64 0, .int .i64 0, .int .i64 0, .int .i64 0], .int .i64 30]) (by simp [results, Tryd.results22, go_sem, c0, c1, c2, c3, c4]) rfl ⟨by rw [HR.out.1, HR.out.2]; rfl, ?_⟩
        exact (((((hbs.setCell (Nat.le_refl _) _).setCell (Nat.le_refl _) _).setCell (Nat.le_refl _) _).setCell (Nat.le_refl _) _).setCell (Nat.le_refl _) _)
    · have hk5 : k = 0 ∨ k = 1 ∨ k = 2 ∨ k = 3 ∨ k = 4 := by omega
      clear hk h5
      by_cases hin : getE l (pofs k) (pwid k) = 0
      · rcases hk5 with rfl | rfl | rfl | rfl | rfl
        · have HG : Hid (getE l 0 1 = 0) := Lib.hid hin
          have HP : Hid (getP l 0 1 = pofs 1) := Lib.hid (get_in (k := 0) (by omega) hin).1
          have HO2 : Hid (pofs 1 ≤ l.length) := Lib.hid (get_in (k := 0) (by omega) hin).2
          clear hin
          go_wp2_with fail
          refine (get_any A c l 0 1 _ ?_ hc hm).mono ?_
          · exact hr.below hbr
          rw [HG.out, HP.out, ← X0.out]
          rintro e w2 ⟨rfl, hb2⟩
          have B0s := B0r.bel hb2
          have B1s := B1r.bel hb2
          have hcell := B1s.c 0 (.int .i64 0) rfl
          have hfz := B1s.frozen 0
          have hz2 := hb2.size
          go_wp2_with fail
          go_roundw
          case measure => simp [intOf]
          case rel => exact ⟨1, by omega, rfl, rfl, HO2, B0s.far (by simp) _, by have := B1s.set 0 (.int .i64 x0); simpa [parr] using this, (bt hbr hb2).setCell (by simp) _⟩
        · have HG : Hid (getE l 1 1 = 0) := Lib.hid hin
          have HP : Hid (getP l 1 1 = pofs 2) := Lib.hid (get_in (k := 1) (by omega) hin).1
          have HO2 : Hid (pofs 2 ≤ l.length) := Lib.hid (get_in (k := 1) (by omega) hin).2
          clear hin
          go_wp2_with fail
          refine (get_any A c l 1 1 _ ?_ hc hm).mono ?_
          · exact hr.below hbr
          rw [HG.out, HP.out, ← X1.out]
          rintro e w2 ⟨rfl, hb2⟩
          have B0s := B0r.bel hb2
          have B1s := B1r.bel hb2
          have hcell := B1s.c 1 (.int .i64 0) rfl
          have hfz := B1s.frozen 1
          have hz2 := hb2.size
          go_wp2_with fail
          go_roundw
          case measure => simp [intOf]
          case rel => exact ⟨2, by omega, rfl, rfl, HO2, B0s.far (by simp) _, by have := B1s.set 1 (.int .i64 x1); simpa [parr] using this, (bt hbr hb2).setCell (by simp) _⟩
        · have HG : Hid (getE l 2 1 = 0) := Lib.hid hin
          have HP : Hid (getP l 2 1 = pofs 3) := Lib.hid (get_in (k := 2) (by omega) hin).1
          have HO2 : Hid (pofs 3 ≤ l.length) := Lib.hid (get_in (k := 2) (by omega) hin).2
          clear hin
          go_wp2_with fail
          refine (get_any A c l 2 1 _ ?_ hc hm).mono ?_
          · exact hr.below hbr
          rw [HG.out, HP.out, ← X2.out]
          rintro e w2 ⟨rfl, hb2⟩
          have B0s := B0r.bel hb2
          have B1s := B1r.bel hb2
          have hcell := B1s.c 2 (.int .i64 0) rfl
          have hfz := B1s.frozen 2
          have hz2 := hb2.size
          go_wp2_with fail
          go_roundw
          case measure => simp [intOf]
          case rel => exact ⟨3, by omega, rfl, rfl, HO2, B0s.far (by simp) _, by have := B1s.set 2 (.int .i64 x2); simpa [parr] using this, (bt hbr hb2).setCell (by simp) _⟩
        · have HG : Hid (getE l 3 6 = 0) := Lib.hid hin
          have HP : Hid (getP l 3 6 = pofs 4) := Lib.hid (get_in (k := 3) (by omega) hin).1
          have HO2 : Hid (pofs 4 ≤ l.length) := Lib.hid (get_in (k := 3) (by omega) hin).2
          clear hin
          go_wp2_with fail
          refine (get_any A c l 3 6 _ ?_ hc hm).mono ?_
          · exact hr.below hbr
          rw [HG.out, HP.out, ← X3.out]
          rintro e w2 ⟨rfl, hb2⟩
          have B0s := B0r.bel hb2
          have B1s := B1r.bel hb2
          have hcell := B1s.c 3 (.int .i64 0) rfl
          have hfz := B1s.frozen 3
          have hz2 := hb2.size
          go_wp2_with fail
          go_roundw
          case measure => simp [intOf]
          case rel => exact ⟨4, by omega, rfl, rfl, HO2, B0s.far (by simp) _, by have := B1s.set 3 (.int .i64 x3); simpa [parr] using this, (bt hbr hb2).setCell (by simp) _⟩
        · have HG : Hid (getE l 9 6 = 0) := Lib.hid hin
          have HP : Hid (getP l 9 6 = pofs 5) := Lib.hid (get_in (k := 4) (by omega) hin).1
          have HO2 : Hid (pofs 5 ≤ l.length) := Lib.hid (get_in (k := 4) (by omega) hin).2
          clear hin
          go_wp2_with fail
          refine (get_any A c l 9 6 _ ?_ hc hm).mono ?_
          · exact hr.below hbr
          rw [HG.out, HP.out, ← X4.out]
          rintro e w2 ⟨rfl, hb2⟩
          have B0s := B0r.bel hb2
          have B1s := B1r.bel hb2
          have hcell := B1s.c 4 (.int .i64 0) rfl
          have hfz := B1s.frozen 4
          have hz2 := hb2.size
          go_wp2_with fail
          go_roundw
          case measure => simp [intOf]
          case rel => exact ⟨5, by omega, rfl, rfl, HO2, B0s.far (by simp) _, by have := B1s.set 4 (.int .i64 x4); simpa [parr] using this, (bt hbr hb2).setCell (by simp) _⟩
      · have HR : Hid (tagW l = tagV 0 0 0 0 0 ∧ tagP l = 30) := Lib.hid (tagW_none (get_out (by omega) HO.out hin))
        rw [HR.out.1, HR.out.2]
        unfold tagV
        rcases hk5 with rfl | rfl | rfl | rfl | rfl
        · have HG : Hid ((getE l 0 1 != 0) = true) := Lib.hid (by simpa [pofs, pwid] using hin)
          obtain ⟨E, HE⟩ : ∃ E, Hid (E = getE l 0 1) := ⟨_, Lib.hid rfl⟩
          have he := HG.out
          rw [← HE.out] at he
          clear hin
          go_wp2_with fail
          refine (get_any A c l 0 1 _ ?_ hc hm).mono ?_
          · exact hr.below hbr
          rw [← HE.out]
          rintro e w2 ⟨rfl, hb2⟩
          have B0s := B0r.bel hb2
          have hz2 := hb2.size
          have c0 := B0s.c 0 (.int .i64 0) rfl
          have c1 := B0s.c 1 (.int .i64 0) rfl
          have c2 := B0s.c 2 (.int .i64 0) rfl
          have c3 := B0s.c 3 (.int .i64 0) rfl
          have c4 := B0s.c 4 (.int .i64 0) rfl
          have f0 := B0s.frozen
          go_wp2_with fail
          refine bodyPost_ret (v := .tuple #[.agg #[.int .i64 0, .int .i64 0, .int .i64 0, .int .i64 0, .int .i64 0], .int .i64 30]) (by simp [results, Tryd.results22, go_sem, c0, c1, c2, c3, c4]) rfl ⟨rfl, ?_⟩
          exact ((((((bt hbr hb2).setCell (Nat.le_refl _) _).setCell (Nat.le_refl _) _).setCell (Nat.le_refl _) _).setCell (Nat.le_refl _) _).setCell (Nat.le_refl _) _)
        · have HG : Hid ((getE l 1 1 != 0) = true) := Lib.hid (by simpa [pofs, pwid] using hin)
          obtain ⟨E, HE⟩ : ∃ E, Hid (E = getE l 1 1) := ⟨_, Lib.hid rfl⟩
          have he := HG.out
          rw [← HE.out] at he
          clear hin
          go_wp2_with fail
          refine (get_any A c l 1 1 _ ?_ hc hm).mono ?_
          · exact hr.below hbr
          rw [← HE.out]
          rintro e w2 ⟨rfl, hb2⟩
          have B0s := B0r.bel hb2
          have hz2 := hb2.size
          have c0 := B0s.c 0 (.int .i64 0) rfl
          have c1 := B0s.c 1 (.int .i64 0) rfl
          have c2 := B0s.c 2 (.int .i64 0) rfl
          have c3 := B0s.c 3 (.int .i64 0) rfl
          have c4 := B0s.c 4 (.int .i64 0) rfl
          have f0 := B0s.frozen
          go_wp2_with fail
          refine bodyPost_ret (v := .tuple #[.agg #[.int .i64 0, .int .i64 0, .int .i64 0, .int .i64 0, .int .i64 0], .int .i64 30]) (by simp [results, Tryd.results22, go_sem, c0, c1, c2, c3, c4]) rfl ⟨rfl, ?_⟩
          exact ((((((bt hbr hb2).setCell (Nat.le_refl _) _).setCell (Nat.le_refl _) _).setCell (Nat.le_refl _) _).setCell (Nat.le_refl _) _).setCell (Nat.le_refl _) _)
        · have HG : Hid ((getE l 2 1 != 0) = true) := Lib.hid (by simpa [pofs, pwid] using hin)
          obtain ⟨E, HE⟩ : ∃ E, Hid (E = getE l 2 1) := ⟨_, Lib.hid rfl⟩
          have he := HG.out
          rw [← HE.out] at he
          clear hin
          go_wp2_with fail
          refine (get_any A c l 2 1 _ ?_ hc hm).mono ?_
          · exact hr.below hbr
          rw [← HE.out]
          rintro e w2 ⟨rfl, hb2⟩
          have B0s := B0r.bel hb2
          have hz2 := hb2.size
          have c0 := B0s.c 0 (.int .i64 0) rfl
          have c1 := B0s.c 1 (.int .i64 0) rfl
          have c2 := B0s.c 2 (.int .i64 0) rfl
          have c3 := B0s.c 3 (.int .i64 0) rfl
          have c4 := B0s.c 4 (.int .i64 0) rfl
          have f0 := B0s.frozen
          go_wp2_with fail
          refine bodyPost_ret (v := .tuple #[.agg #[.int .i64 0, .int .i64 0, .int .i64 0, .int .i64 0, .int .i64 0], .int .i64 30]) (by simp [results, Tryd.results22, go_sem, c0, c1, c2, c3, c4]) rfl ⟨rfl, ?_⟩
          exact ((((((bt hbr hb2).setCell (Nat.le_refl _) _).setCell (Nat.le_refl _) _).setCell (Nat.le_refl _) _).setCell (Nat.le_refl _) _).setCell (Nat.le_refl _) _)
        · have HG : Hid ((getE l 3 6 != 0) = true) := Lib.hid (by simpa [pofs, pwid] using hin)
          obtain ⟨E, HE⟩ : ∃ E, Hid (E = getE l 3 6) := ⟨_, Lib.hid rfl⟩
          have he := HG.out
          rw [← HE.out] at he
          clear hin
          go_wp2_with fail
          refine (get_any A c l 3 6 _ ?_ hc hm).mono ?_
          · exact hr.below hbr
          rw [← HE.out]
          rintro e w2 ⟨rfl, hb2⟩
          have B0s := B0r.bel hb2
          have hz2 := hb2.size
          have c0 := B0s.c 0 (.int .i64 0) rfl
          have c1 := B0s.c 1 (.int .i64 0) rfl
          have c2 := B0s.c 2 (.int .i64 0) rfl
          have c3 := B0s.c 3 (.int .i64 0) rfl
          have c4 := B0s.c 4 (.int .i64 0) rfl
          have f0 := B0s.frozen
          go_wp2_with fail
          refine bodyPost_ret (v := .tuple #[.agg #[.int .i64 0, .int .i64 0, .int .i64 0, .int .i64 0, .int .i64 0], .int .i64 30]) (by simp [results, Tryd.results22, go_sem, c0, c1, c2, c3, c4]) rfl ⟨rfl, ?_⟩
          exact ((((((bt hbr hb2).setCell (Nat.le_refl _) _).setCell (Nat.le_refl _) _).setCell (Nat.le_refl _) _).setCell (Nat.le_refl _) _).setCell (Nat.le_refl _) _)
        · have HG : Hid ((getE l 9 6 != 0) = true) := Lib.hid (by simpa [pofs, pwid] using hin)
          obtain ⟨E, HE⟩ : ∃ E, Hid (E = getE l 9 6) := ⟨_, Lib.hid rfl⟩
          have he := HG.out
          rw [← HE.out] at he
          clear hin
          go_wp2_with fail
          refine (get_any A c l 9 6 _ ?_ hc hm).mono ?_
          · exact hr.below hbr
          rw [← HE.out]
          rintro e w2 ⟨rfl, hb2⟩
          have B0s := B0r.bel hb2
          have hz2 := hb2.size
          have c0 := B0s.c 0 (.int .i64 0) rfl
          have c1 := B0s.c 1 (.int .i64 0) rfl
          have c2 := B0s.c 2 (.int .i64 0) rfl
          have c3 := B0s.c 3 (.int .i64 0) rfl
          have c4 := B0s.c 4 (.int .i64 0) rfl
          have f0 := B0s.frozen
          go_wp2_with fail
          refine bodyPost_ret (v := .tuple #[.agg #[.int .i64 0, .int .i64 0, .int .i64 0, .int .i64 0, .int .i64 0], .int .i64 30]) (by simp [results, Tryd.results22, go_sem, c0, c1, c2, c3, c4]) rfl ⟨rfl, ?_⟩
          exact ((((((bt hbr hb2).setCell (Nat.le_refl _) _).setCell (Nat.le_refl _) _).setCell (Nat.le_refl _) _).setCell (Nat.le_refl _) _).setCell (Nat.le_refl _) _)
end Go.Proofs.YtahfippapknolaaDoor
