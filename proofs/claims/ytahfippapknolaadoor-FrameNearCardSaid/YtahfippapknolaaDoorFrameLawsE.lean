/-
  THE WALKS OF THE LAWS FrameSpoilt, FrameNear.
-/
import Derived.Test.YtahfippapknolaaDoorFrameLawsB
namespace Go.Proofs.YtahfippapknolaaDoor
open Go.RowKit
set_option linter.unusedVariables false

theorem sealL_good {rp rg pl ix ic : Int} {l : List UInt8} {two : Bool} (h : sealE (mayB rp rg pl ix ic) l (two1 two) = 0) :
    frG (sealL rp rg pl ix ic l (two1 two)) = true ∧ ((sealL rp rg pl ix ic l (two1 two)).length = 64 ∨ (sealL rp rg pl ix ic l (two1 two)).length = 128) := by
  obtain ⟨hm, ⟨_, h2, h3⟩ | ⟨_, h2, h3⟩⟩ := sealL_some h
  · have := frm_good hm (l := l) (n := 64) (.inl ⟨rfl, h2⟩)
    rw [h3]; exact ⟨this.2.1, .inl this.1⟩
  · have := frm_good hm (l := l) (n := 128) (.inr ⟨rfl, h2⟩)
    rw [h3]; exact ⟨this.2.1, .inr this.1⟩
theorem sealE_far {rp rg pl ix ic : Int} {l : List UInt8} {two : Bool} (h : sealE (mayB rp rg pl ix ic) l (two1 two) ≠ 0) : mayB rp rg pl ix ic = false ∨ 43 < l.length := by
  rcases sealE_not h (by cases two <;> simp [two1]) with h | h
  · exact .inl h
  · cases two <;> simp [two1] at h <;> omega
theorem frS_good (l : List UInt8) : frS l = 1 ↔ frG l = true := by
  constructor
  · intro h
    cases e : frG l
    · unfold frS at h
      rw [e] at h
      split at h
      · cases h
      · split at h <;> cases h
    · rfl
  · intro h
    obtain ⟨h0, h3, _⟩ := frG_parts h
    simp [frS, h0, h3, h]

set_option maxRecDepth 100000 in
set_option maxHeartbeats 2000000 in
theorem frameSpoilt_walk (rp rg pl ix ic : Int) (A : Option Addr) (c : Nat) (l : List UInt8) (two : Bool) (a0 a1 a2 : Nat) (w : World) (b0 : -9223372036854775808 ≤ rp) (b1 : rp ≤ 9223372036854775807) (b2 : -9223372036854775808 ≤ rg) (b3 : rg ≤ 9223372036854775807)
    (b4 : -9223372036854775808 ≤ pl) (b5 : pl ≤ 9223372036854775807) (b6 : -9223372036854775808 ≤ ix) (b7 : ix ≤ 9223372036854775807) (b8 : -9223372036854775808 ≤ ic) (b9 : ic ≤ 9223372036854775807)
    (hr : Rd w A l) (hc : l.length ≤ c) (hm : c ≤ maxLen) (ha0 : a0 < 2 ^ 16) (ha1 : a1 < 2 ^ 16) (ha2 : a2 < 2 ^ 16) :
    Calls Tryd.prog 5 #[.agg #[.int .i64 rp, .int .i64 rg, .int .i64 pl, .int .i64 ix, .int .i64 ic], .slice A l.length c, .bool two, .agg #[.int .u16 a0, .int .u16 a1, .int .u16 a2]] w (RetV w (.bool true)) := by
  clear b0 b1 b2 b3 b4 b5 b6 b7 b8 b9
  by_cases h1 : 300 < l.length
  · go_enter Tryd.func5, Tryd.ntmps5
    go_wp2_with fail
    refine (awake_any _).mono ?_
    rintro e w1 ⟨rfl, hb1⟩
    go_wp2_with fail
    go_ret
    exact ⟨rfl, bac (bac hb1)⟩
  have h300 : decide ((300 : Int) < l.length) = false := decide_eq_false (by omega)
  by_cases hE : sealE (mayB rp rg pl ix ic) l (two1 two) = 0
  case neg =>
    have hfar := sealE_far hE
    cases hmay : mayB rp rg pl ix ic
    all_goals
      have HM := Lib.hid hmay
      have g43 : mayB rp rg pl ix ic = true → (43 : Int) < l.length := fun h => by
        rcases hfar with h2 | h2
        · rw [h2] at h; cases h
        · omega
      rw [hmay] at g43
      simp only [reduceCtorEq, false_implies, forall_const] at g43
      clear hmay h1 hfar ha0 ha1 ha2
      go_enter Tryd.func5, Tryd.ntmps5
      go_wp2_with fail
      refine (awake_any _).mono ?_
      rintro e w1 ⟨rfl, hb1⟩
      have B1 := ((Blk.new w 25 #[.int .i64 rp, .int .i64 rg, .int .i64 pl, .int .i64 ix, .int .i64 ic]).alloc (.cells #[.int .u16 a0, .int .u16 a1, .int .u16 a2] 39)).bel hb1
      have hbb1 := bac (bac hb1)
      have k0 := B1.c 0 (.int .i64 rp) rfl
      have k1 := B1.c 1 (.int .i64 rg) rfl
      have k2 := B1.c 2 (.int .i64 pl) rfl
      have k3 := B1.c 3 (.int .i64 ix) rfl
      have k4 := B1.c 4 (.int .i64 ic) rfl
      go_wp2_with fail
      with_reducible refine (sealed_no rp rg pl ix ic A c l two _ (hr.below hbb1) hE).mono ?_
      rintro e w2 ⟨A2, c2, rfl, hown2, hb2⟩
      have B2 := B1.bel hb2
      have hbb2 := bt hbb1 hb2
      clear k0 k1 k2 k3 k4
      have k0 := B2.c 0 (.int .i64 rp) rfl
      have k1 := B2.c 1 (.int .i64 rg) rfl
      have k2 := B2.c 2 (.int .i64 pl) rfl
      have k3 := B2.c 3 (.int .i64 ix) rfl
      have k4 := B2.c 4 (.int .i64 ic) rfl
      go_wp2_with fail
      with_reducible refine (may_of _ HM.out).mono ?_
      rintro e w3 ⟨rfl, hb3⟩
      go_wp2_with fail
      go_ret
      exact ⟨rfl, bt hbb2 hb3⟩
  obtain ⟨L, HL⟩ : ∃ L, Hid (L = sealL rp rg pl ix ic l (two1 two)) := ⟨_, Lib.hid rfl⟩
  have hgood := sealL_good hE
  rw [← HL.out] at hgood
  obtain ⟨hg, hN⟩ := hgood
  obtain ⟨N, HN⟩ : ∃ N, Hid (L.length = N) := ⟨_, Lib.hid rfl⟩
  rw [HN.out] at hN
  have hN1 : 64 ≤ N := by omega
  have hN2 : N ≤ 128 := by omega
  have HG := Lib.hid hg
  have hLm : L.length ≤ 140737488355328 := by rw [HN.out]; omega
  obtain ⟨f, hf, hf2⟩ : ∃ f : Nat → Nat, (∀ (w : World) (m : Nat), m < 3 → (w.alloc (.cells #[.int .u16 a0, .int .u16 a1, .int .u16 a2] 39)).cell? ⟨w.heap.size, m, none⟩ = some (.int .u16 (f m))) ∧ ∀ m, f m < 65536 := by
    refine ⟨fun m => if m = 0 then a0 else if m = 1 then a1 else a2, fun w m hm => ?_, fun m => ?_⟩
    · rw [cell_of_row _ _ _ _ _ _ (heap_alloc_new w _)]
      have : m = 0 ∨ m = 1 ∨ m = 2 := by omega
      rcases this with rfl | rfl | rfl <;> rfl
    · show (if m = 0 then a0 else if m = 1 then a1 else a2) < 65536
      split
      · exact ha0
      · split
        · exact ha1
        · exact ha2
  have HF := Lib.hid hf
  have HF2 := Lib.hid hf2
  clear hf hf2 hN h1 ha0 ha1 ha2 hg
  go_enter Tryd.func5, Tryd.ntmps5
  go_wp2_with fail
  refine (awake_any _).mono ?_
  rintro e w1 ⟨rfl, hb1⟩
  have B1 := ((Blk.new w 25 #[.int .i64 rp, .int .i64 rg, .int .i64 pl, .int .i64 ix, .int .i64 ic]).alloc (.cells #[.int .u16 a0, .int .u16 a1, .int .u16 a2] 39)).bel hb1
  have hbb1 := bac (bac hb1)
  have HC1 : Hid (∀ m, m < 3 → w1.cell? ⟨w.heap.size + 1, m, none⟩ = some (.int .u16 (f m))) := Lib.hid (by
    intro m hm3
    have h1 := HF.out (w.alloc (.cells #[.int .i64 rp, .int .i64 rg, .int .i64 pl, .int .i64 ix, .int .i64 ic] 25)) m hm3
    rw [World.size_alloc] at h1
    rw [← h1]
    exact hb1.cell (p := ⟨w.heap.size + 1, m, none⟩) (by simp))
  have hsz1 : w.heap.size + 1 < w1.heap.size := by have := hb1.size; simp at this; omega
  have k0 := B1.c 0 (.int .i64 rp) rfl
  have k1 := B1.c 1 (.int .i64 rg) rfl
  have k2 := B1.c 2 (.int .i64 pl) rfl
  have k3 := B1.c 3 (.int .i64 ix) rfl
  have k4 := B1.c 4 (.int .i64 ic) rfl
  clear hb1
  go_wp2_with fail
  with_reducible refine (sealed_yes rp rg pl ix ic A c l two _ (hr.below hbb1) hE).mono ?_
  rw [← HL.out]
  rintro e w2 ⟨A2, c2, rfl, hown2, hb2⟩
  rw [HN.out]
  have hbb2 := bt hbb1 hb2
  clear k0 k1 k2 k3 k4
  go_wp2_with fail
  with_reducible refine (copy_n A2 c2 L N _ hown2.rd hLm HN.out.symm).mono ?_
  rintro e w3 ⟨A3, c3, rfl, hown3, hb3⟩
  rcases hown3.form with ⟨_, _, e⟩ | ⟨g, rfl, hg2, _, hcap3, hcap3'⟩
  · have := HN.out
    rw [e] at this
    simp at this
    omega
  rw [HN.out]
  have hz2 := hbb2.size
  have hsz2 := hb2.size
  have hne1 : w.heap.size + 1 < w2.heap.size := by omega
  clear hsz1
  have HC2 : Hid (∀ m, m < 3 → w2.cell? ⟨w.heap.size + 1, m, none⟩ = some (.int .u16 (f m))) := Lib.hid (fun m hm3 => by
    have h1 := HC1.out m hm3
    exact (hb2.cell (p := ⟨w.heap.size + 1, m, none⟩) (World.block_lt_of_cell? w1 _ h1)).trans h1)
  have rdL := hown2.rd
  clear hb2 HC1 B1
  go_wp2_with fail
  go_loopw [12] (fun n wr => ∃ (m : Nat) (C : List UInt8) (ps : List Nat), m ≤ 3 ∧ n = .int .i64 m ∧ Hid (C.length = N) ∧ Hid (ps.length = m) ∧ Hid (∀ p ∈ ps, p < 8 * N) ∧ Hid (C = ps.foldl toggle L) ∧ Own wr w2.heap.size (some ⟨g, 0, none⟩) c3 C ∧ Below w2.heap.size w2 wr) (fun n _ => 3 - (intOf n).toNat)
  case atStart => exact ⟨0, L, [], by omega, rfl, HN, Lib.hid rfl, Lib.hid (by simp), Lib.hid rfl, hown3, hb3⟩
  case round =>
    obtain ⟨m, C, ps, hm3, rfl, HCl, Hpl, Hp, HC, hown, hb⟩ := hrel
    by_cases hlt : m < 3
    · have hcellm : wr.cell? ⟨w.heap.size + 1, m, none⟩ = some (.int .u16 (f m)) := (hb.cell (p := ⟨w.heap.size + 1, m, none⟩) hne1).trans (HC2.out m hlt)
      have hfm := HF2.out m
      obtain ⟨p, hp, hpl⟩ : ∃ p : Nat, ((f m : Nat) : Int) % (8 * (N : Int)) = (p : Int) ∧ p < 8 * N := ⟨f m % (8 * N), by simp, Nat.mod_lt _ (by omega)⟩
      have hpC : p / 8 < C.length := by rw [HCl.out]; omega
      have hcell := hown.cell (p / 8) hpC
      have hfz := hown.frozen (p / 8)
      obtain ⟨y, Hy⟩ : ∃ y, Hid (y = C[p / 8].toNat) := ⟨_, Lib.hid rfl⟩
      have hy : y < 256 := by rw [Hy.out]; exact C[p / 8].toNat_lt
      rw [← Hy.out] at hcell
      have ex : bits BinOp.xor IntKind.u8 (y : Int) (2 ^ (p % 8) % 256) = ((C[p / 8] ^^^ UInt8.ofNat (2 ^ (p % 8))).toNat : Int) := by rw [Hy.out]; exact toggle_val C p hpC
      obtain ⟨v, Hv⟩ : ∃ v : UInt8, Hid (v = C[p / 8] ^^^ UInt8.ofNat (2 ^ (p % 8))) := ⟨_, Lib.hid rfl⟩
      rw [← Hv.out] at ex
      have own2 : Own (wr.setCell ⟨g, p / 8, none⟩ (.int .u8 (v.toNat : Int))) w2.heap.size (some ⟨g, 0, none⟩) c3 (toggle C p) := by
        rw [toggle_set C p hpC, ← Hv.out]
        exact hown.set (p / 8) v
      have hb2 := hb.setCell (p := ⟨g, p / 8, none⟩) hg2 (.int .u8 (v.toNat : Int))
      have HC3 : Hid (toggle C p = (ps ++ [p]).foldl toggle L) := Lib.hid (by rw [List.foldl_append, ← HC.out]; rfl)
      have Hp2 : Hid (∀ q ∈ ps ++ [p], q < 8 * N) := Lib.hid (by
        intro q hq
        rcases List.mem_append.1 hq with h | h
        · exact Hp.out q h
        · simp at h; omega)
      have Hpl2 : Hid ((ps ++ [p]).length = m + 1) := Lib.hid (by rw [List.length_append, Hpl.out]; rfl)
      have HCl2 : Hid ((toggle C p).length = N) := Lib.hid (by rw [toggle_length, HCl.out])
      have hfew := few L (ps ++ [p]) (by rw [Hpl2.out]; omega) (by rw [HN.out]; exact Hp2.out) (by rw [HN.out]; omega)
      rw [← HC3.out] at hfew
      obtain ⟨D, HD⟩ : ∃ D, Hid (D = toggle C p) := ⟨_, Lib.hid rfl⟩
      rw [← HD.out] at own2 HC3 HCl2 hfew
      obtain ⟨S, HS⟩ : ∃ S, Hid (frS D = S) := ⟨_, Lib.hid rfl⟩
      obtain ⟨Q, HQ⟩ : ∃ Q, Hid (eqB L D = Q) := ⟨_, Lib.hid rfl⟩
      have hfin : ((S == 1) == Q) = true := by
        rw [beq_iff_eq, ← HS.out, ← HQ.out, Bool.eq_iff_iff, beq_iff_eq, frS_good]
        unfold eqB
        rw [decide_eq_true_eq]
        constructor
        · intro h
          exact hfew ((frG_sum h).trans (frG_sum HG.out).symm)
        · intro h
          rw [← h]; exact HG.out
      have HFIN := Lib.hid hfin
      clear hfin hfew
      obtain ⟨v0, v1, v2, v3, v4, HV⟩ := frV_form D
      obtain ⟨DB, HDB⟩ : ∃ X, Hid (frB D = X) := ⟨_, Lib.hid rfl⟩
      have hN3 : D.length ≤ c3 := by rw [HCl2.out, ← HN.out]; exact hcap3
      have hDm : D.length ≤ maxLen := by rw [HCl2.out]; unfold maxLen; omega
      have hLm2 : L.length ≤ maxLen := by rw [HN.out]; unfold maxLen; omega
      go_wp2_with fail
      with_reducible refine (open_n (some ⟨g, 0, none⟩) c3 N D _ own2.rd hN3 hcap3' HCl2.out.symm S v0 v1 v2 v3 v4 DB HS HV HDB).mono ?_
      rintro e w5 ⟨A5, c5, rfl, _, _, _, hb5⟩
      have own5 := (own2.below hb5).alloc (.cells #[.int .i64 v0, .int .i64 v1, .int .i64 v2, .int .i64 v3, .int .i64 v4] 25)
      have hb5' := (bel_trans hb2 hb5 (by simp; exact hb.size)).alloc (by have := hb5.size; simp at this; exact Nat.le_trans hb.size this) (.cells #[.int .i64 v0, .int .i64 v1, .int .i64 v2, .int .i64 v3, .int .i64 v4] 25)
      have rl5 := rdL.below hb5'
      have hz5 := hb5'.size
      clear hb5
      go_wp2_with fail
      with_reducible refine (same_n A2 (some ⟨g, 0, none⟩) c2 c3 L D N N _ rl5 own5.rd hLm2 hDm HN.out.symm HCl2.out.symm).mono ?_
      rw [HQ.out]
      rintro e w6 ⟨rfl, hb6⟩
      have hfin := HFIN.out
      go_wp2_with fail
      go_roundw
      case measure => simp [intOf]; omega
      case rel =>
        exact ⟨m + 1, D, ps ++ [p], by omega, by go_num, HCl2, Hpl2, Hp2, HC3, own5.below hb6, bel_trans hb5' hb6 hz5⟩
    · obtain rfl : m = 3 := by omega
      go_wp2_with fail
      go_ret
      exact ⟨rfl, bel_trans hbb2 hb hz2⟩
end Go.Proofs.YtahfippapknolaaDoor
