/-
  A NET OF WHICH TWO ARE CUT; reading beside a net.
-/
import Derived.Test.YtiieakndjheknaaDoorNtJ
import Derived.Test.YtiieakndjheknaaDoorNtK
namespace Go.Proofs.YtiieakndjheknaaDoor
set_option maxRecDepth 100000
open Go.RowKit
set_option linter.unusedVariables false
set_option linter.unusedSimpArgs false
/-! what holds of a net of which two are cut -/
def Inv (n x y : Int) (cut : List Bool) (cs : List MX) : Prop := cutB n cut x y = true ∧ ∀ c ∈ cs, cutB n cut c.m.fr c.m.to = false
theorem pair_comm (n x y : Int) : pairB n y x = pairB n x y := by
  unfold pairB
  rw [Int.min_comm, Int.max_comm]
  congr 2
  rw [bne_comm]
theorem cut_comm (n : Int) (cut : List Bool) (x y : Int) : cutB n cut y x = cutB n cut x y := by
  unfold cutB ixC
  rw [pair_comm, Int.min_comm, Int.max_comm]
theorem Inv.sub {n x y : Int} {cut : List Bool} {cs cs' : List MX} (h : Inv n x y cut cs) (s : cs' ⊆ cs) : Inv n x y cut cs' := ⟨h.1, fun c hc => h.2 c (s hc)⟩
theorem Inv.send {n x y : Int} {cut : List Bool} {cs : List MX} (h : Inv n x y cut cs) (c : MX) : Inv n x y cut (nsndL n cut cs c) ∧ (nsndL n cut cs c).length ≤ cs.length + 1 := by
  unfold nsndL
  split
  · split
    · exact ⟨h, by omega⟩
    · rename_i h2
      split
      · exact ⟨h, by omega⟩
      · refine ⟨⟨h.1, fun c' hc => ?_⟩, by simp⟩
        rcases List.mem_append.1 hc with hc | hc
        · exact h.2 c' hc
        · obtain rfl := List.mem_singleton.1 hc
          exact Bool.eq_false_iff.2 h2
  · exact ⟨h, by omega⟩
theorem tak_sub (cs : List MX) (i : Int) : ntakL cs i ⊆ cs := by
  unfold ntakL
  split
  · exact fun _ h => h
  · exact List.eraseIdx_subset
theorem Inv.take {n x y : Int} {cut : List Bool} {cs : List MX} (h : Inv n x y cut cs) (i : Int) : Inv n x y cut (ntakL cs i) ∧ (ntakL cs i).length ≤ cs.length + 1 := by
  refine ⟨h.sub (tak_sub cs i), ?_⟩
  unfold ntakL
  split
  · omega
  · have := List.length_eraseIdx_le cs (natI cs i)
    omega
theorem Inv.copy {n x y : Int} {cut : List Bool} {cs : List MX} (h : Inv n x y cut cs) (i : Int) : Inv n x y cut (ncpyL cs i) ∧ (ncpyL cs i).length ≤ cs.length + 1 := by
  unfold ncpyL
  split
  · exact ⟨h, by omega⟩
  · split
    · exact ⟨h, by omega⟩
    · cases hg : cs[natI cs i]? with
      | none => exact ⟨by simpa using h, by simp⟩
      | some z =>
        refine ⟨⟨h.1, fun c' hc => ?_⟩, by simp⟩
        rcases List.mem_append.1 hc with hc | hc
        · exact h.2 c' hc
        · have : c' = z := by simpa using hc
          subst this
          exact h.2 c' (List.mem_of_getElem? hg)
theorem getD_set_true (cut : List Bool) (i j : Nat) (h : cut.getD j false = true) : (cut.set i true).getD j false = true := by
  rw [List.getD_eq_getElem?_getD, List.getElem?_set] at *
  by_cases e : i = j
  · subst e
    rw [if_pos rfl]
    by_cases hl : i < cut.length
    · rw [if_pos hl]; rfl
    · rw [List.getElem?_eq_none (by omega)] at h
      cases h
  · rw [if_neg e]; exact h
theorem Inv.cut {n x y : Int} {cut : List Bool} {cs : List MX} (h : Inv n x y cut cs) (a b : Int) : Inv n x y (ncutC n cut a b) (ncutL n cut cs a b) ∧ (ncutL n cut cs a b).length ≤ cs.length + 1 := by
  unfold ncutC ncutL
  split
  · refine ⟨⟨?_, fun c hc => ?_⟩, Nat.le_trans (List.length_filter_le _ _) (by omega)⟩
    · have h1 := h.1
      unfold cutB at h1 ⊢
      rw [Bool.and_eq_true] at h1 ⊢
      exact ⟨h1.1, getD_set_true _ _ _ h1.2⟩
    · have := (List.mem_filter.1 hc).2
      simpa using this
  · exact ⟨h, by omega⟩
theorem cut0_getD (j : Nat) : cut0.getD j false = false := by
  unfold cut0
  rw [List.getD_eq_getElem?_getD, List.getElem?_replicate]
  split <;> rfl
theorem Inv.first {n x y : Int} (hp : pairB n x y = true) (h7 : n ≤ 7) : Inv n x y (ncutC n cut0 x y) [] := by
  refine ⟨?_, fun c h => by cases h⟩
  unfold ncutC
  rw [if_pos hp]
  unfold cutB
  rw [hp, Bool.true_and]
  simp only [pairB, Bool.and_eq_true, decide_eq_true_eq] at hp
  have hlt : ixC x y < 49 := by unfold ixC; omega
  rw [List.getD_eq_getElem?_getD, List.getElem?_set_self (by simpa [cut0] using hlt)]
  rfl
theorem Inv.not {n x y : Int} {cut : List Bool} {cs : List MX} (h : Inv n x y cut cs) {c : MX} (hc : c ∈ cs) : ¬ (c.m.fr = x ∧ c.m.to = y) ∧ ¬ (c.m.fr = y ∧ c.m.to = x) := by
  have h2 := h.2 c hc
  constructor
  · rintro ⟨e1, e2⟩
    rw [e1, e2, h.1] at h2
    cases h2
  · rintro ⟨e1, e2⟩
    rw [e1, e2, cut_comm, h.1] at h2
    cases h2
section
variable {P : Program} {a : Act} {w0 w : World} {Q : Exit → Act → World → Prop} {L : List Item} {ops : Array Oper} {rest : List Oper} {d : Option Tmp} {ty tt : TypeId} {x y : Operand} {ps : String} {af : Array Edge} {gd : Option (Nat × Bool)} {g : Nat} {n : Int} {cut : List Bool} {cs : List MX} {F Z : List Item}
theorem NetZ.ldo (HN : NetZ w0 w g n cut cs F Z) (h : Region.wanted { dst := d, op := .load ty x, type := tt, pos := ps, after := af, guard := gd } (yielded ops a.tmps) = true ∧ oneT P ty = true ∧ ∃ p, a.eval x = .pointer (some p) ∧
    ∃ v, w0.cell? p = some v ∧ wpList P ops Q rest (a.put d v) w) :
    wpList P ops Q ({ dst := d, op := .load ty x, type := tt, pos := ps, after := af, guard := gd } :: rest) a w := by
  obtain ⟨A, c, fl, h1, h2, h3, h4, H⟩ := HN
  exact H.ldo h
theorem NetZ.ldrO (HN : NetZ w0 w g n cut cs F Z) (h : Region.wanted { dst := d, op := .load ty x, type := tt, pos := ps, after := af, guard := gd } (yielded ops a.tmps) = true ∧ rowT P ty = true ∧ ∃ b off, a.eval x = .pointer (some ⟨b, off, none⟩) ∧
    ∃ vs : List Value, w0.rangeAt b off vs ∧ sizeT P ty = some vs.length ∧ wpList P ops Q rest (a.put d (.agg vs.toArray)) w) :
    wpList P ops Q ({ dst := d, op := .load ty x, type := tt, pos := ps, after := af, guard := gd } :: rest) a w := by
  obtain ⟨A, c, fl, h1, h2, h3, h4, H⟩ := HN
  exact H.ldrO h
theorem wl_ldc (h : Region.wanted { dst := d, op := .load ty x, type := tt, pos := ps, after := af, guard := gd } (yielded ops a.tmps) = true ∧ oneT P ty = true ∧ ∃ p, a.eval x = .pointer (some p) ∧ ∃ v, w.cell? p = some v ∧ wpList P ops Q rest (a.put d v) w) :
    wpList P ops Q ({ dst := d, op := .load ty x, type := tt, pos := ps, after := af, guard := gd } :: rest) a w := by
  obtain ⟨h1, h2, p, h3, v, h4, h5⟩ := h
  exact wl_val _ h1 (by simp [execOp, h3, run_loadAt_cell (P := P) (oneT_c h2) h4]) h5
/-- a field of a message of rows of the call's own -/
theorem NetZ.fld {Ao : Option Addr} {co : Nat} {out : List MX} (HN : NetZ w0 w g n cut cs (mwI Ao co out :: F) Z) {k : Nat} (hk : k < out.length) : ∃ gO, Ao = some ⟨gO, 0, none⟩ ∧ ∀ j v, (mgC out[k].m)[j]? = some v → w.cell? ⟨gO, k * 27 + j, none⟩ = some v := by
  obtain ⟨A, c, fl, h1, h2, h3, h4, H⟩ := HN
  obtain ⟨gO, rfl⟩ := H.rowsA 2 rfl (by omega)
  refine ⟨gO, rfl, fun j v hj => ?_⟩
  have := H.cellR mxC_len 2 rfl k j hk hj
  rwa [Nat.zero_add] at this
theorem NetZ.len (HN : NetZ w0 w g n cut cs F Z) : cs.length ≤ 200 := by
  obtain ⟨A, c, fl, h1, h2, h3, h4, H⟩ := HN
  exact h3
theorem NetZ.tuck {F1 : List Item} (HN : NetZ w0 w g n cut cs (F1 ++ F) Z) : NetZ w0 w g n cut cs F (F1 ++ Z) := by
  obtain ⟨A, c, fl, h1, h2, h3, h4, H⟩ := HN
  refine ⟨A, c, fl, h1, h2.mono (sub_app F1 Z), h3, h4, H.perm (List.Perm.cons _ (List.Perm.cons _ ?_))⟩
  rw [List.append_assoc]
  exact perm_mid F1 F Z
theorem NetZ.W0 (HN : NetZ w0 w g n cut cs F Z) : HpW w0 [] w := by
  obtain ⟨A, c, fl, h1, h2, h3, h4, H⟩ := HN
  exact ⟨_, by rw [List.append_nil]; exact H⟩
theorem NetZ.ldaF {gb : Nat} {t : TypeId} {vs : List Value} (HN : NetZ w0 w g n cut cs (.blk gb t vs :: F) Z) (h : Region.wanted { dst := d, op := .load ty x, type := tt, pos := ps, after := af, guard := gd } (yielded ops a.tmps) = true ∧ rowT P ty = true ∧ ∃ k, sizeT P ty = some k ∧ a.eval x = .pointer (some ⟨gb, 0, none⟩) ∧ vs.length = k ∧ wpList P ops Q rest (a.put d (.agg vs.toArray)) w) :
    wpList P ops Q ({ dst := d, op := .load ty x, type := tt, pos := ps, after := af, guard := gd } :: rest) a w := by
  obtain ⟨A, c, fl, h1, h2, h3, h4, H⟩ := HN
  obtain ⟨q1, q2, k, q3, q4, q5, q6⟩ := h
  exact H.lda ⟨q1, q2, k, q3, gb, q4, _, _, _, .s (.s .z), q5, q6⟩
theorem nall_f (HN : NetZ w0 w g n cut cs F Z) (hn : crowdB n = true) {m : Nat} (hm : cs.length = m) :
    Calls Tryd.prog 16 #[.pointer (some ⟨g, 0, none⟩)] w (fun e w' => ∃ A c Z', e = .returned (.slice A m c) ∧ Z ⊆ Z' ∧ NetZ w0 w' g n cut cs F Z') := by
  refine (nall_o HN hn).mono ?_
  rintro e w' ⟨Ao, co, out, N, Z2, rfl, ho, hN, hZs, HN2⟩
  exact ⟨Ao, co, _, by rw [← hm, ← ho, List.length_map], fun i hi => List.mem_append_right _ (hZs hi), NetZ.tuck (F1 := mwI Ao co out :: N) HN2⟩
end
/-! the client's message -/
def askM (z x : Int) : Mg := { mg0 with k := 1, fr := z, to := x, sq := 1, ok := 1, o0 := ⟨#[107]⟩ }
theorem ask_ok {z x : Int} (hz : I64 z) (hx : I64 x) : OkX ⟨askM z x, [], []⟩ := by
  have t1 : (0 : Int) ≤ 1 ∧ (1 : Int) < 256 := ⟨by decide, by decide⟩
  have z0 : (0 : Int) ≤ 0 ∧ (0 : Int) < 256 := ⟨by decide, by decide⟩
  have e0 : (0 : Nat) ≤ maxLen := Nat.zero_le _
  have e1 : (1 : Nat) ≤ maxLen := by unfold maxLen; omega
  have i1 : I64 1 := ⟨by decide, by decide⟩
  have h : MgN (askM z x) := ⟨t1, hz, hx, i64_0, i64_0, i64_0, i64_0, i64_0, i64_0, i64_0, i1, ⟨e0, e0, e0⟩, ⟨z0.1, z0.2, z0.1, z0.2⟩, i64_0, i64_0, t1, e1, e0, e0, i64_0, e0⟩
  exact ⟨rfl, rfl, h, by simp, Nat.zero_le _, Nat.zero_le _⟩
theorem ask_s (z x : Int) (w0 : World) (Y : List Item) : MgS w0 Y (askM z x) [] [] := fun w1 _ _ _ => ⟨rfl, fun h => absurd rfl h, by simp, Nat.le_refl _, Nat.zero_le _, rfl, Rd.nil _ _, Nat.le_refl _, Nat.zero_le _⟩
theorem ask_may {n z x : Int} (hn : crowdB n = true) (hz : -4 ≤ z ∧ z < 0) (hx : 0 ≤ x ∧ x < n) : mayM (askM z x) [] [] n = true := by
  have hs : sameM (bareM (askM z x)) (bareR (askM z x) []) (bareY (askM z x) []) (askM z x) [] [] = true := sameM_iff.2 ⟨rfl, rfl, rfl⟩
  have hk : kindB (askM z x).k = true := show kindB 1 = true by decide
  have hl : (lets (askM z x).k).all (fun c => keepB c.toNat (askM z x) [] n) = true := by
    show (numB 1 1 && ((decide (((1 : Nat) : Int) ≤ 16) && (decide (((0 : Nat) : Int) ≤ 16) && decide (((0 : Nat) : Int) ≤ 16))) && true)) = true
    decide
  have he : endsB (askM z x) n = true := by
    unfold endsB
    rw [if_pos (show (askM z x).k = 1 from rfl)]
    show (cliIx z && repIx n x) = true
    simp only [cliIx, repIx, Bool.and_eq_true, decide_eq_true_eq]
    omega
  unfold mayM
  rw [hs, hk, hl, hn, he]
  rfl
theorem cut_cli {n z x : Int} {cut : List Bool} (hz : z < 0) : cutB n cut z x = false := by
  have : pairB n z x = false := by
    unfold pairB
    rw [decide_eq_false (by omega)]
    rfl
  unfold cutB
  rw [this]
  rfl
theorem nsend_ask {w0 w : World} {g : Nat} {n : Int} {cut : List Bool} {cs : List MX} {F Z : List Item} {z x : Int} (HN : NetZ w0 w g n cut cs F Z) (hF : FldW w0) (hn : crowdB n = true) (hz : -4 ≤ z ∧ z < 0) (hx : 0 ≤ x ∧ x < n) (hx7 : x < 100) (hl : cs.length < 200) :
    Calls Tryd.prog 11 #[.pointer (some ⟨g, 0, none⟩), .agg (mgC (askM z x)).toArray] w (RetN w0 g n cut (cs ++ [⟨askM z x, [], []⟩]) F Z (.int .i64 0)) := by
  have h := nsend_o (m := askM z x) (rs := []) (l := []) HN hF hn (ask_s _ _ _ _) (ask_ok ⟨by omega, by omega⟩ ⟨by omega, by omega⟩)
  have e : cx ⟨askM z x, [], []⟩ = ⟨askM z x, [], []⟩ := rfl
  rw [e] at h
  have h1 : nsndR n cut cs ⟨askM z x, [], []⟩ = 0 := by
    unfold nsndR
    rw [if_pos (ask_may hn hz hx)]
    show (if cutB n cut z x = true then _ else _) = _
    rw [cut_cli hz.2, if_neg Bool.false_ne_true, if_neg (by omega)]
  have h2 : nsndL n cut cs ⟨askM z x, [], []⟩ = cs ++ [⟨askM z x, [], []⟩] := by
    unfold nsndL
    rw [if_pos (ask_may hn hz hx)]
    show (if cutB n cut z x = true then _ else _) = _
    rw [cut_cli hz.2, if_neg Bool.false_ne_true, if_neg (by omega)]
  rw [h1, h2] at h
  exact h
theorem b_op1 : Tryd.prog.built 25 [(0, .int .u8 1), (1, .string ⟨#[107]⟩)] = some #[.int .u8 1, .string ⟨#[107]⟩, .string .empty, .string .empty] := by kernel_rfl
theorem b_ask (z x : Int) : Tryd.prog.built 34 [(0, .int .u8 1), (1, .int .i64 z), (2, .int .i64 x), (9, .int .i64 1), (11, .agg #[.int .u8 1, .string ⟨#[107]⟩, .string .empty, .string .empty])] = some (mgC (askM z x)).toArray := by kernel_rfl
theorem act_u : Tryd.prog.underlying 51 = some (.slice 58) := Tryd.underlying51
theorem s_nAct : sizeT Tryd.prog 58 = some 30 := by kernel_rfl
/-- the loop's relation -/
def CuRel (w0 : World) (g : Nat) (m : Nat) (x y : Nat) (N : Nat) (v : Value) (wr : World) : Prop := ∃ (i : Nat) (cut : List Bool) (cs : List MX) (Z : List Item), v = .int .i64 i ∧ i ≤ N ∧ cs.length ≤ i ∧ Inv (m : Int) (x : Int) (y : Int) cut cs ∧ NetZ w0 wr g (m : Int) cut cs [] Z
def InRel (N : Nat) (w1 : World) (v : Value) (wr : World) : Prop := ∃ k : Nat, v = .int .i64 k ∧ k ≤ N ∧ wr = w1
end Go.Proofs.YtiieakndjheknaaDoor
