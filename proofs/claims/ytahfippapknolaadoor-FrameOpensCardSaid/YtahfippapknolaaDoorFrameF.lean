/-
  WHAT THE LAWS ON FRAMES SHARE: awake, sealed.
-/
import Derived.Test.YtahfippapknolaaDoorFrameE
import Derived.Outline
import Derived.Deep.RegionHeld3
namespace Go.Proofs.YtahfippapknolaaDoor
open Go.RowKit
set_option linter.unusedVariables false

/-- so many noughts, as cells -/
def zcs (n : Nat) : Array Value := (bvs (List.replicate n 0)).toArray
theorem mk_run (n : Nat) (hn : n ≤ 140737488355328) (w : World) : (Instr.makeSlice 22 (.int .i64 n) (.int .i64 n)).run Tryd.prog w = .ok (.slice (some ⟨w.heap.size, 0, none⟩) n n) (w.alloc (.cells (zcs n) 5)) := by
  obtain ⟨i, hi, hz0, hz1, hz2⟩ := info_parts u8_info
  have hb' : (i.bytes : Int) * (n : Int) ≤ 281474976710656 := by rw [hz2]; omega
  have hr := run_make (P := Tryd.prog) w _ _ i _ u8_slice hi hz0 .i64 .i64 n n (by omega) (by omega) hb' (by omega)
  simp only [Int.toNat_natCast] at hr
  rw [hr, hz1, Nat.mul_one]
  have e : madeCells (Value.int .u8 0).cells n = zcs n := by
    unfold zcs
    apply Array.toList_inj.1
    rw [show (Value.int .u8 0).cells = #[Value.int .u8 0] from rfl, toList_madeCells_one]
    simp [bvs]
  rw [e]
theorem rd_zero (w : World) (n : Nat) : Rd (w.alloc (.cells (zcs n) 5)) (some ⟨w.heap.size, 0, none⟩) (List.replicate n 0) := rd_lit w _ _ rfl
theorem rd_zero' {w : World} {g : Nat} (n : Nat) (hg : g = w.heap.size) : Rd (w.alloc (.cells (zcs n) 5)) (some ⟨g, 0, none⟩) (List.replicate n 0) := by subst hg; exact rd_zero w n
theorem rd_lit' {w : World} {g : Nat} (l : List UInt8) {C : Array Value} (hC : C = (bvs l).toArray) (hg : g = w.heap.size) : Rd (w.alloc (.cells C 5)) (some ⟨g, 0, none⟩) l := by subst hg; exact rd_lit w l C hC
theorem frV_form (l : List UInt8) : ∃ v0 v1 v2 v3 v4 : Int, Hid (frV l = .agg #[.int .i64 v0, .int .i64 v1, .int .i64 v2, .int .i64 v3, .int .i64 v4]) := ⟨_, _, _, _, _, Lib.hid rfl⟩
theorem open_n (A : Option Addr) (c n : Nat) (l : List UInt8) (w : World) (hr : Rd w A l) (hc : l.length ≤ c) (hm : c ≤ maxLen) (hn : n = l.length) (S v0 v1 v2 v3 v4 : Int) (D : List UInt8)
    (HS : Hid (frS l = S)) (HV : Hid (frV l = .agg #[.int .i64 v0, .int .i64 v1, .int .i64 v2, .int .i64 v3, .int .i64 v4])) (HD : Hid (frB l = D)) :
    Calls Tryd.prog 10 #[.slice A n c] w (RetF w S (.agg #[.int .i64 v0, .int .i64 v1, .int .i64 v2, .int .i64 v3, .int .i64 v4]) D) := by
  subst hn
  have := open_any A c l w hr hc hm
  rwa [HS.out, HV.out, HD.out] at this
theorem ropen_n (A : Option Addr) (c n : Nat) (l : List UInt8) (w : World) (hr : Rd w A l) (hc : l.length ≤ c) (hm : c ≤ maxLen) (hn : n = l.length) (S v0 v1 v2 v3 v4 : Int) (D : List UInt8)
    (HS : Hid (frS l = S)) (HV : Hid (frV l = .agg #[.int .i64 v0, .int .i64 v1, .int .i64 v2, .int .i64 v3, .int .i64 v4])) (HD : Hid (frB l = D)) :
    Calls Tryd.prog 11 #[.slice A n c] w (RetF w S (.agg #[.int .i64 v0, .int .i64 v1, .int .i64 v2, .int .i64 v3, .int .i64 v4]) D) := by
  subst hn
  have := ropen_any A c l w hr hc hm
  rwa [HS.out, HV.out, HD.out] at this
theorem seal_n (rp rg pl ix ic : Int) (A : Option Addr) (c n : Nat) (l : List UInt8) (s : Int) (w : World) (hr : Rd w A l) (hn : n = l.length) : Calls Tryd.prog 16 #[.agg #[.int .i64 rp, .int .i64 rg, .int .i64 pl, .int .i64 ix, .int .i64 ic], .slice A n c, .int .i64 s] w (RetBI w (sealL rp rg pl ix ic l s) (sealE (mayB rp rg pl ix ic) l s)) := by
  subst hn
  exact seal_any rp rg pl ix ic A c l s w hr
/-- new bytes and a bool -/
def RetBB (w : World) (l : List UInt8) (k : Bool) (e : Ending) (w' : World) : Prop :=
  ∃ A c, e = .returned (.tuple #[.slice A l.length c, .bool k]) ∧ Own w' w.heap.size A c l ∧ Below w.heap.size w w'

/-- what is sealed, in its own words -/
theorem sealL_some {rp rg pl ix ic : Int} {l : List UInt8} {s : Int} (h : sealE (mayB rp rg pl ix ic) l s = 0) :
    mayB rp rg pl ix ic = true ∧ ((s = 1 ∧ l.length ≤ 43 ∧ sealL rp rg pl ix ic l s = frmL 64 (tagL rp rg pl ix ic) l) ∨ (s = 2 ∧ l.length ≤ 88 ∧ sealL rp rg pl ix ic l s = frmL 128 (tagL rp rg pl ix ic) l)) := by
  have h' := h
  unfold sealE at h
  split at h
  · omega
  split at h
  · omega
  rename_i h1 h2
  have hm : mayB rp rg pl ix ic = true := by
    cases e : mayB rp rg pl ix ic
    · exact absurd (.inl e) h1
    · rfl
  refine ⟨hm, ?_⟩
  rcases roomI_cases (s := s) (fun e => h1 (.inr e)) with ⟨rfl, h3⟩ | ⟨rfl, h3⟩
  · refine .inl ⟨rfl, by omega, ?_⟩
    unfold sealL
    rw [h', if_pos rfl]
    rfl
  · refine .inr ⟨rfl, by omega, ?_⟩
    unfold sealL
    rw [h', if_pos rfl]
    rfl
theorem sealL_none {rp rg pl ix ic : Int} {l : List UInt8} {s : Int} (h : sealE (mayB rp rg pl ix ic) l s ≠ 0) : sealL rp rg pl ix ic l s = [] := by
  unfold sealL
  rw [if_neg h]
theorem sealL_len {rp rg pl ix ic : Int} {l : List UInt8} {s : Int} (h : sealE (mayB rp rg pl ix ic) l s = 0) : ((sealL rp rg pl ix ic l s).length : Int) = s * 64 ∧ (s = 1 ∨ s = 2) := by
  obtain ⟨hm, ⟨h1, h2, h3⟩ | ⟨h1, h2, h3⟩⟩ := sealL_some h
  · have := (frm_good hm (l := l) (n := 64) (.inl ⟨rfl, h2⟩)).1
    rw [h3, this]; omega
  · have := (frm_good hm (l := l) (n := 128) (.inr ⟨rfl, h2⟩)).1
    rw [h3, this]; omega
theorem sealE_not {m : Bool} {l : List UInt8} {s : Int} (h : sealE m l s ≠ 0) (hs : s = 1 ∨ s = 2) : m = false ∨ (if s = 1 then 43 else 88) < l.length := by
  cases m
  · exact .inl rfl
  right
  unfold sealE at h
  rcases hs with rfl | rfl
  · rw [show roomI 1 = 43 from rfl] at h
    by_cases hl : (43 : Int) < l.length
    · rw [if_pos rfl]; omega
    · rw [if_neg (by simp), if_neg hl] at h
      exact absurd rfl h
  · rw [show roomI 2 = 88 from rfl] at h
    by_cases hl : (88 : Int) < l.length
    · rw [if_neg (by omega)]; omega
    · rw [if_neg (by simp), if_neg hl] at h
      exact absurd rfl h

def two1 (two : Bool) : Int := if two then 2 else 1
set_option maxHeartbeats 1000000 in
theorem sealed_yes (rp rg pl ix ic : Int) (A : Option Addr) (c : Nat) (l : List UInt8) (two : Bool) (w : World) (hr : Rd w A l) (h : sealE (mayB rp rg pl ix ic) l (two1 two) = 0) :
    Calls Tryd.prog 19 #[.agg #[.int .i64 rp, .int .i64 rg, .int .i64 pl, .int .i64 ix, .int .i64 ic], .slice A l.length c, .bool two] w (RetBB w (sealL rp rg pl ix ic l (two1 two)) true) := by
  have hlen := (sealL_len h).1
  have HE := Lib.hid h
  obtain ⟨L, HL⟩ : ∃ L, Hid (L = sealL rp rg pl ix ic l (two1 two)) := ⟨_, Lib.hid rfl⟩
  rw [← HL.out] at hlen ⊢
  clear h
  cases two
  · have HL1 : Hid (L = sealL rp rg pl ix ic l 1) := HL
    have HE1 : Hid (sealE (mayB rp rg pl ix ic) l 1 = 0) := HE
    have HLl : Hid (L.length = 64) := Lib.hid (by simp [two1] at hlen; omega)
    have hlb : ((L.length : Int) == 64) = true := by rw [beq_iff_eq, HLl.out]; rfl
    clear hlen
    go_enter Tryd.func19, Tryd.ntmps19
    go_wp2_with fail
    refine (seal_any _ _ _ _ _ A c l _ _ (hr.alloc _)).mono ?_
    rw [← HL1.out, HE1.out]
    rintro e w1 ⟨A1, c1, rfl, hown1, hb1⟩
    go_wp2_with fail
    go_ret2
    exact ⟨A1, c1, rfl, hown1.mono (by simp), bac hb1⟩
  · have HL1 : Hid (L = sealL rp rg pl ix ic l 2) := HL
    have HE1 : Hid (sealE (mayB rp rg pl ix ic) l 2 = 0) := HE
    have HLl : Hid (L.length = 128) := Lib.hid (by simp [two1] at hlen; omega)
    have hlb : ((L.length : Int) == 128) = true := by rw [beq_iff_eq, HLl.out]; rfl
    clear hlen
    go_enter Tryd.func19, Tryd.ntmps19
    go_wp2_with fail
    refine (seal_any _ _ _ _ _ A c l _ _ (hr.alloc _)).mono ?_
    rw [← HL1.out, HE1.out]
    rintro e w1 ⟨A1, c1, rfl, hown1, hb1⟩
    go_wp2_with fail
    go_ret2
    exact ⟨A1, c1, rfl, hown1.mono (by simp), bac hb1⟩
set_option maxHeartbeats 1000000 in
theorem sealed_no (rp rg pl ix ic : Int) (A : Option Addr) (c : Nat) (l : List UInt8) (two : Bool) (w : World) (hr : Rd w A l) (h : sealE (mayB rp rg pl ix ic) l (two1 two) ≠ 0) :
    Calls Tryd.prog 19 #[.agg #[.int .i64 rp, .int .i64 rg, .int .i64 pl, .int .i64 ix, .int .i64 ic], .slice A l.length c, .bool two] w (RetBB w [] false) := by
  have HN := Lib.hid (sealL_none h)
  obtain ⟨E, HE⟩ : ∃ E, Hid (E = sealE (mayB rp rg pl ix ic) l (two1 two)) := ⟨_, Lib.hid rfl⟩
  have hE : (E == 0) = false := by rw [beq_eq_false_iff_ne, HE.out]; exact h
  clear h
  cases two
  · have HN1 : Hid (sealL rp rg pl ix ic l 1 = []) := HN
    have HE1 : Hid (E = sealE (mayB rp rg pl ix ic) l 1) := HE
    go_enter Tryd.func19, Tryd.ntmps19
    go_wp2_with fail
    refine (seal_any _ _ _ _ _ A c l _ _ (hr.alloc _)).mono ?_
    rw [HN1.out, ← HE1.out]
    rintro e w1 ⟨A1, c1, rfl, hown1, hb1⟩
    go_wp2_with fail
    go_ret2
    exact ⟨A1, c1, rfl, hown1.mono (by simp), bac hb1⟩
  · have HN1 : Hid (sealL rp rg pl ix ic l 2 = []) := HN
    have HE1 : Hid (E = sealE (mayB rp rg pl ix ic) l 2) := HE
    go_enter Tryd.func19, Tryd.ntmps19
    go_wp2_with fail
    refine (seal_any _ _ _ _ _ A c l _ _ (hr.alloc _)).mono ?_
    rw [HN1.out, ← HE1.out]
    rintro e w1 ⟨A1, c1, rfl, hown1, hb1⟩
    go_wp2_with fail
    go_ret2
    exact ⟨A1, c1, rfl, hown1.mono (by simp), bac hb1⟩

/-- the chapter's frame -/
def fr47 : List UInt8 := frmL 128 (tagL 1 4 47 258 3) [7]
def hd47 : List UInt8 := [1, 0, 1, 4, 47, 2, 1, 0, 0, 0, 0, 3, 0, 0, 0, 0, 0, 7]
theorem awk1 (A B : Option Addr) (c d : Nat) (W : World) (h1 : Rd W A hd47) (h2 : Rd W B hd47) : Calls Tryd.prog 12 #[.slice A 18 c, .slice B 18 d] W (RetV W (.bool true)) :=
  same_self A B c d hd47 18 18 W h1 h2 (by decide) rfl rfl
theorem awk2 (A B : Option Addr) (c d : Nat) (W : World) (h1 : Rd W A (List.replicate 106 0)) (h2 : Rd W B (List.replicate 106 0)) : Calls Tryd.prog 12 #[.slice A 106 c, .slice B 106 d] W (RetV W (.bool true)) :=
  same_self A B c d (List.replicate 106 0) 106 106 W h1 h2 (by decide) rfl rfl
set_option maxRecDepth 100000 in
set_option maxHeartbeats 1000000 in
theorem awake_any (w : World) : Calls Tryd.prog 15 #[] w (RetV w (.bool true)) := by
  obtain ⟨hf1, hf2, hf3, hf4, hf5⟩ := frm_good (rp := 1) (rg := 4) (pl := 47) (ix := 258) (ic := 3) (by decide +kernel) (l := [7]) (n := 128) (.inr ⟨rfl, by decide⟩)
  have HE : Hid (sealE (mayB 1 4 47 258 3) [7] 2 = 0) := Lib.hid (by decide +kernel)
  have HL : Hid (sealL 1 4 47 258 3 [7] 2 = fr47) := Lib.hid (by unfold sealL; rw [HE.out, if_pos rfl]; rfl)
  have HF1 : Hid (fr47.length = 128) := Lib.hid hf1
  have H18 : Hid (fr47.take 18 = hd47) := Lib.hid (by decide +kernel)
  have H106 : Hid ((fr47.drop 18).take 106 = List.replicate 106 0) := Lib.hid (by decide +kernel)
  have HS1 : Hid (frS (List.replicate 64 0) = 0) := Lib.hid (by decide +kernel)
  have HS2 : Hid (frS (List.replicate 63 0) = 2) := Lib.hid (by decide +kernel)
  have HS3 : Hid (frS fr47 = 1) := Lib.hid (by decide +kernel)
  have HD1 : Hid (frB (List.replicate 64 0) = []) := Lib.hid (by decide +kernel)
  have HD2 : Hid (frB (List.replicate 63 0) = []) := Lib.hid (by decide +kernel)
  have HD3 : Hid (frB fr47 = [7]) := Lib.hid (by decide +kernel)
  have HV3 : Hid (frV fr47 = .agg #[.int .i64 1, .int .i64 4, .int .i64 47, .int .i64 258, .int .i64 3]) := Lib.hid (by
    unfold frV
    rw [show frF fr47 0 1 = 1 by decide +kernel, show frF fr47 1 1 = 4 by decide +kernel, show frF fr47 2 1 = 47 by decide +kernel, show frF fr47 3 6 = 258 by decide +kernel, show frF fr47 9 6 = 3 by decide +kernel])
  obtain ⟨a0, a1, a2, a3, a4, HV1⟩ := frV_form (List.replicate 64 0)
  obtain ⟨b0, b1, b2, b3, b4, HV2⟩ := frV_form (List.replicate 63 0)
  have hmk : ∀ W, (Instr.makeSlice 22 (.int .i64 106) (.int .i64 106)).run Tryd.prog W = .ok (.slice (some ⟨W.heap.size, 0, none⟩) 106 106) (W.alloc (.cells (zcs 106) 5)) := mk_run 106 (by omega)
  have hmk2 : ∀ W, (Instr.makeSlice 22 (.int .i64 64) (.int .i64 64)).run Tryd.prog W = .ok (.slice (some ⟨W.heap.size, 0, none⟩) 64 64) (W.alloc (.cells (zcs 64) 5)) := mk_run 64 (by omega)
  have hmk3 : ∀ W, (Instr.makeSlice 22 (.int .i64 63) (.int .i64 63)).run Tryd.prog W = .ok (.slice (some ⟨W.heap.size, 0, none⟩) 63 63) (W.alloc (.cells (zcs 63) 5)) := mk_run 63 (by omega)
  clear hf1 hf2 hf3 hf4 hf5
  go_enter Tryd.func15, Tryd.ntmps15
  go_wp2_with fail
  refine (seal_n 1 4 47 258 3 _ 1 1 [7] 2 _ (rd_lit w [7] _ rfl) rfl).mono ?_
  rw [HL.out, HE.out]
  rintro e w1 ⟨A1, c1, rfl, hown1, hb1⟩
  rw [HF1.out]
  have hbb1 := bac hb1
  obtain ⟨g1, rfl, _, _, hcap, hcap2⟩ : ∃ g1, A1 = some ⟨g1, 0, none⟩ ∧ _ := by
    rcases hown1.form with ⟨_, _, e⟩ | h
    · have := HF1.out
      rw [e] at this
      cases this
    · exact h
  rw [HF1.out] at hcap
  unfold maxLen at hcap2
  have n18 : ¬ c1 = 18 := by omega
  have i18 : (18 : Int) ≤ c1 := by omega
  have i124 : (124 : Int) ≤ c1 := by omega
  have r18 : Rd w1 (some ⟨g1, 0, none⟩) hd47 := by rw [← H18.out]; exact hown1.rd.take 18
  have r106 : Rd w1 (some ⟨g1, 18, none⟩) (List.replicate 106 0) := by rw [← H106.out]; exact Rd.cut hown1.rd g1 0 18 106 rfl (by rw [HF1.out]; decide)
  go_wp2_with fail
  go_region_held3 (fun w' => Below w1.heap.size w1 w') (first | exact (Below.refl _ _).drew | exact bal (by assumption) _ | assumption) (first | (go_at_call 12; ((with_reducible refine (awk1 _ _ _ _ _ ?_ ?_).mono ?_); exact r18.below (by assumption); exact rd_lit _ hd47 _ rfl; rintro e w2 ⟨rfl, hb2⟩; have hS2 : Below w1.heap.size w1 w2 := bt (by assumption) hb2)) | (go_at_call 12; ((with_reducible refine (awk2 _ _ _ _ _ ?_ ?_).mono ?_); exact r106.below (by assumption); exact rd_zero _ _; rintro e w3 ⟨rfl, hb3⟩; have hS3 : Below w1.heap.size w1 w3 := bt (by assumption) hb3)))
  have hbb3 := bt hbb1 hS3
  clear hS2 r18 r106
  go_wp2_with fail
  trace "at open"
  with_reducible refine (open_n _ 64 64 (List.replicate 64 0) _ (rd_zero _ _) (by decide) (by decide) rfl 0 a0 a1 a2 a3 a4 [] HS1 HV1 HD1).mono ?_
  trace "r4"
  rintro e w4 ⟨A4, c4, rfl, _, _, _, hb4⟩
  have hbb4 := bt hbb3 (bac hb4)
  go_wp2_with fail
  trace "at open"
  with_reducible refine (open_n _ 63 63 (List.replicate 63 0) _ (rd_zero' 63 (by simp)) (by decide) (by decide) rfl 2 b0 b1 b2 b3 b4 [] HS2 HV2 HD2).mono ?_
  trace "r5"
  rintro e w5 ⟨A5, c5, rfl, _, _, _, hb5⟩
  have hbb5 := bt (bal hbb4 (.cells #[.int .i64 a0, .int .i64 a1, .int .i64 a2, .int .i64 a3, .int .i64 a4] 25)) (bac hb5)
  have hs15 : Below w1.heap.size w1 w5 := bt (bt hS3 (bac hb4)) (bt (bal0 w4 (.cells #[.int .i64 a0, .int .i64 a1, .int .i64 a2, .int .i64 a3, .int .i64 a4] 25)) (bac hb5))
  go_wp2_with fail
  trace "at open"
  with_reducible refine (open_n (some ⟨g1, 0, none⟩) c1 128 fr47 _ ((hown1.rd.below hs15).alloc _) (by rw [HF1.out]; exact hcap) (by unfold maxLen; exact hcap2) HF1.out.symm 1 1 4 47 258 3 [7] HS3 HV3 HD3).mono ?_
  trace "r6"
  rintro e w6 ⟨A6, c6, rfl, hm6, _, _, hb6⟩
  have hbb6 := bt hbb5 (bac hb6)
  have r6 : Rd w6 A6 [7] := hm6.1
  have C6 := Blk.new w6 25 #[.int .i64 1, .int .i64 4, .int .i64 47, .int .i64 258, .int .i64 3]
  clear hb4 hb5 hb6 hm6 hs15 hbb4 hbb5 hbb3 hS3 hbb1 hb1 hown1
  go_wp2_with fail
  trace "same"
  refine (same_self A6 (some ⟨w6.heap.size + 1, 0, none⟩) c6 1 [7] 1 1 _ ((r6.alloc _).alloc _) (rd_lit' [7] rfl (by simp)) (by decide) rfl rfl).mono ?_
  rintro e w7 ⟨rfl, hb7⟩
  have hbb7 := bt hbb6 (bac (bac hb7))
  go_wp2_with fail
  refine (room_any _ _).mono ?_
  rw [show roomI 1 = 43 from rfl]
  rintro e w8 ⟨rfl, rfl⟩
  go_wp2_with fail
  refine (room_any _ _).mono ?_
  rw [show roomI 2 = 88 from rfl]
  rintro e w8 ⟨rfl, rfl⟩
  go_wp2_with fail
  refine (room_any _ _).mono ?_
  rw [show roomI 3 = 0 from rfl]
  rintro e w8 ⟨rfl, rfl⟩
  go_wp2_with fail
  go_ret
  exact ⟨rfl, hbb7⟩
end Go.Proofs.YtahfippapknolaaDoor
