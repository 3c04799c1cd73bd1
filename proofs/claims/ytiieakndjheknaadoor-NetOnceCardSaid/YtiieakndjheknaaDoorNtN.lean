/-
  A NET, AND THE LAW's OWN LIST OF WHAT FLIES.
-/
import Derived.Test.YtiieakndjheknaaDoorNtM
namespace Go.Proofs.YtiieakndjheknaaDoor
set_option maxRecDepth 100000
open Go.RowKit
set_option linter.unusedVariables false
set_option linter.unusedSimpArgs false
/-- one of the chapter's messages, between two replicas -/
def IsFt (n : Nat) (c : MX) : Prop := ∃ (a b i : Nat), c = ftX (a : Int) (b : Int) (i : Int) ∧ a < n ∧ b < n ∧ a ≠ b ∧ i ≤ 1000
def OI (n : Nat) (cut : List Bool) (cs : List MX) : Prop := (∀ c ∈ cs, IsFt n c) ∧ ∀ c ∈ cs, cutB (n : Int) cut c.m.fr c.m.to = false
theorem IsFt.cx {n : Nat} {c : MX} (h : IsFt n c) : cx c = c := by obtain ⟨a, b, i, rfl, _⟩ := h; rfl
theorem IsFt.ok {n : Nat} {c : MX} (h : IsFt n c) (hn : n ≤ 7) : OkX c := by
  obtain ⟨a, b, i, rfl, h1, h2, h3, h4⟩ := h
  exact ft_ok ⟨by omega, by omega⟩ ⟨by omega, by omega⟩ ⟨by omega, by omega⟩
theorem IsFt.r {n : Nat} {c : MX} (h : IsFt n c) (w : World) : MgR w c.m c.rs c.l := by obtain ⟨a, b, i, rfl, _⟩ := h; exact ft_r _ _ _ w
theorem OI.nil (n : Nat) (cut : List Bool) : OI n cut [] := ⟨fun c h => (by cases h), fun c h => (by cases h)⟩
theorem OI.sub {n : Nat} {cut : List Bool} {cs cs' : List MX} (h : OI n cut cs) (s : cs' ⊆ cs) : OI n cut cs' := ⟨fun c hc => h.1 c (s hc), fun c hc => h.2 c (s hc)⟩
theorem OI.snoc {n : Nat} {cut : List Bool} {cs : List MX} (h : OI n cut cs) {c : MX} (h1 : IsFt n c) (h2 : cutB (n : Int) cut c.m.fr c.m.to = false) : OI n cut (cs ++ [c]) := by
  constructor
  · intro z hz
    rcases List.mem_append.1 hz with hz | hz
    · exact h.1 z hz
    · obtain rfl := List.mem_singleton.1 hz; exact h1
  · intro z hz
    rcases List.mem_append.1 hz with hz | hz
    · exact h.2 z hz
    · obtain rfl := List.mem_singleton.1 hz; exact h2
theorem OI.heal {n : Nat} {cut : List Bool} {cs : List MX} (h : OI n cut cs) : OI n cut0 cs := ⟨h.1, fun c _ => by unfold cutB; rw [cut0_getD, Bool.and_false]⟩
/-- what the law leaves behind a cut -/
def keepC (x y : Nat) (c : MX) : Bool := !((c.m.fr == (x : Int)) && (c.m.to == (y : Int)) || (c.m.fr == (y : Int)) && (c.m.to == (x : Int)))
theorem getD_set {cut : List Bool} {i j : Nat} (hi : i < cut.length) : (cut.set i true).getD j false = (decide (i = j) || cut.getD j false) := by
  rw [List.getD_eq_getElem?_getD, List.getElem?_set, List.getD_eq_getElem?_getD]
  by_cases e : i = j
  · subst e
    rw [if_pos rfl, if_pos hi]
    simp
  · rw [if_neg e]
    simp [e]
theorem keep_eq {n x y : Nat} {cut : List Bool} {cs : List MX} (h : OI n cut cs) (h49 : cut.length = 49) (hn : n ≤ 7) (hx : x < n) (hy : y < n) (hxy : x ≠ y) : ncutL (n : Int) cut cs (x : Int) (y : Int) = cs.filter (keepC x y) := by
  have hp : pairB (n : Int) (x : Int) (y : Int) = true := by
    simp only [pairB, Bool.and_eq_true, decide_eq_true_eq, bne_iff_ne]
    omega
  unfold ncutL
  rw [if_pos hp]
  apply List.filter_congr
  intro c hc
  obtain ⟨a, b, i, rfl, ha, hb, hab, _⟩ := h.1 c hc
  have h2 := h.2 _ hc
  have hp2 : pairB (n : Int) (a : Int) (b : Int) = true := by
    simp only [pairB, Bool.and_eq_true, decide_eq_true_eq, bne_iff_ne]
    omega
  have e1 : (ftX (a : Int) (b : Int) (i : Int)).m.fr = (a : Int) := rfl
  have e2 : (ftX (a : Int) (b : Int) (i : Int)).m.to = (b : Int) := rfl
  unfold keepC
  rw [e1, e2] at h2 ⊢
  unfold cutB at h2 ⊢
  rw [hp2, Bool.true_and] at h2 ⊢
  have hlt : ixC (x : Int) (y : Int) < cut.length := by unfold ixC; omega
  rw [getD_set hlt, h2, Bool.or_false]
  have e3 : decide (ixC (x : Int) (y : Int) = ixC (a : Int) (b : Int)) = (((a : Int) == (x : Int)) && ((b : Int) == (y : Int)) || ((a : Int) == (y : Int)) && ((b : Int) == (x : Int))) := by
    rw [Bool.eq_iff_iff]
    simp only [decide_eq_true_eq, Bool.or_eq_true, Bool.and_eq_true, beq_iff_eq]
    unfold ixC
    omega
  rw [e3]
theorem OI.cut {n x y : Nat} {cut : List Bool} {cs : List MX} (h : OI n cut cs) : OI n (ncutC (n : Int) cut (x : Int) (y : Int)) (ncutL (n : Int) cut cs (x : Int) (y : Int)) := by
  unfold ncutC ncutL
  split
  · refine ⟨fun c hc => h.1 c (List.mem_filter.1 hc).1, fun c hc => ?_⟩
    have := (List.mem_filter.1 hc).2
    simpa using this
  · exact h
section
variable {P : Program} {a : Act} {w0 w : World} {Q : Exit → Act → World → Prop} {L : List Item} {ops : Array Oper} {rest : List Oper} {d : Option Tmp} {ty tt : TypeId} {x y : Operand} {ps : String} {af : Array Edge} {gd : Option (Nat × Bool)} {g : Nat} {n : Int} {cut : List Bool} {cs : List MX} {F Z : List Item}
theorem NetZ.ldc {gb : Nat} {t : TypeId} {vs : List Value} (HN : NetZ w0 w g n cut cs (.blk gb t vs :: F) Z) (h : Region.wanted { dst := d, op := .load ty x, type := tt, pos := ps, after := af, guard := gd } (yielded ops a.tmps) = true ∧ oneT P ty = true ∧ ∃ off, a.eval x = .pointer (some ⟨gb, off, none⟩) ∧ ∃ v, vs[off]? = some v ∧ wpList P ops Q rest (a.put d v) w) :
    wpList P ops Q ({ dst := d, op := .load ty x, type := tt, pos := ps, after := af, guard := gd } :: rest) a w := by
  obtain ⟨A, c, fl, h1, h2, h3, h4, H⟩ := HN
  obtain ⟨q1, q2, off, q3, v, q4, q5⟩ := h
  exact H.ld ⟨q1, q2, gb, off, q3, _, _, _, .s (.s .z), v, q4, q5⟩
theorem hq_ldRw {Q : Act → Prop} (h : Region.wanted { dst := d, op := .load ty x, type := tt, pos := ps, after := af, guard := gd } (yielded ops a.tmps) = true ∧ rowT P ty = true ∧ ∃ b off, a.eval x = .pointer (some ⟨b, off, none⟩) ∧
    ∃ vs : List Value, (∀ y : HpS w0 L, y.val.rangeAt b off vs) ∧ sizeT P ty = some vs.length ∧ wpQuiet P ops (fun w' => ∃ x : HpS w0 L, w' = x.val) Q rest (a.put d (.agg vs.toArray))) :
    wpQuiet P ops (fun w' => ∃ x : HpS w0 L, w' = x.val) Q ({ dst := d, op := .load ty x, type := tt, pos := ps, after := af, guard := gd } :: rest) a := by
  obtain ⟨h1, h2, b, off, hx, vs, hr, hn, hk⟩ := h
  refine BigFrame.wpQuiet_want h1 fun K hK => quiet_of_run _ ?_ (hK _ hk)
  rintro w ⟨y, rfl⟩
  have := run_loadAt_row (P := P) h2 hn (hr y)
  simp [execOp, hx, this]
end
theorem RdR.take {α : Type} {f : α → List Value} {n : Nat} {w : World} {A : Option Addr} {l : List α} (h : RdR f n w A l) (k : Nat) : RdR f n w A (l.take k) := by
  intro hne
  obtain ⟨b, o, e, hc⟩ := h (fun e => hne (by rw [e]; simp))
  refine ⟨b, o, e, fun i hi => ?_⟩
  rw [List.getElem_take]
  exact hc i (by rw [List.length_take] at hi; omega)
theorem RdR.drop {α : Type} {f : α → List Value} {n : Nat} {w : World} {b o : Nat} {l : List α} (h : RdR f n w (some ⟨b, o, none⟩) l) (k : Nat) : RdR f n w (some ⟨b, o + k * n, none⟩) (l.drop k) := by
  intro hne
  obtain ⟨b', o', e, hc⟩ := h (fun e => hne (by rw [e]; simp))
  injection e with e
  injection e with e1 e2
  subst e1 e2
  refine ⟨b, o + k * n, rfl, fun i hi => ?_⟩
  rw [List.getElem_drop]
  have := hc (k + i) (by rw [List.length_drop] at hi; omega)
  rwa [Nat.add_mul, ← Nat.add_assoc] at this
/-- a slice of none, in a block of its own, in a drawn region -/
theorem hw_bsl0 {a : Act} {w0 w : World} {Q : Exit → Act → World → Prop} {L : List Item} {oi : Oper} {K : Act → World → Prop} {t e : TypeId} {n : Nat} (ho : oi.op = .buildSlice t 0 #[]) (ht : Tryd.prog.underlying t = some (.slice e)) (hi : (Tryd.prog.info? e).map (fun i => i.size) = some n) (H : Hp w0 w L)
    (h : ∀ g w', Hp w0 w' (.own e n (some ⟨g, 0, none⟩) 0 0 [] :: L) → K (a.put oi.dst (.slice (some ⟨g, 0, none⟩) 0 0)) w') : oi.wp Tryd.prog a w K Q := by
  cases hq : Tryd.prog.info? e with
  | none => rw [hq] at hi; cases hi
  | some i =>
    rw [hq] at hi
    simp only [Option.map_some, Option.some.injEq] at hi
    have he : (execOp a.eval oi).run Tryd.prog w = .ok (.value (.slice (some ⟨w.heap.size, 0, none⟩) 0 0)) (w.alloc (.cells #[] e)) := by
      simp [execOp, ho, Instr.buildSlice, run_underlying ht, sizeOf, typeInfo, hq, newRow, Instr.fill]
      congr 2
      apply Array.ext <;> simp
    have ho2 : (w.alloc (.cells #[] e)).ownsRow w0.heap.size e n (.slice (some ⟨w.heap.size, 0, none⟩) 0 0) 0 [] := by
      have := World.ownsRow_lit (base := w0.heap.size) (e := e) (size := n) w #[] 0 H.size (by unfold maxLen; omega) (by simp)
      simpa using this
    have H1 : Hp w0 (w.alloc (.cells #[] e)) (.own e n (some ⟨w.heap.size, 0, none⟩) 0 0 [] :: L) :=
      H.new (H.below.alloc H.size _) (by simp) (fun k hk => Below.heap_alloc w _ k hk) ho2 (fun k hk => by simp [Item.foot] at hk; subst hk; simp)
    exact hw_turn he (h _ _ H1)
theorem ms_i1 : (Tryd.prog.info? 34).map (fun i => i.size) = some 27 := by kernel_rfl
/-- a row of rows of the call's own, in whatever world holds them -/
theorem HpS.row {w0 : World} {L : List Item} {gF cf : Nat} {cs : List MX} (i : Nat) (hL : L[i]? = some (mwI (some ⟨gF, 0, none⟩) cf cs)) {k : Nat} (hk : k < cs.length) (y : HpS w0 L) : y.val.rangeAt gF (k * 27) (mgC cs[k].m) := by
  obtain ⟨b', o', e', hc⟩ := (y.2.rd mxC_len i hL).at_ hk
  injection e' with e'
  injection e' with e1 e2
  subst e1 e2
  have := hc k hk
  rwa [Nat.zero_add] at this
theorem ers {α : Type} {f : α → List Value} (l : List α) (k : Nat) : rowsC f (l.take k) ++ rowsC f (l.drop (k + 1)) = rowsC f (l.eraseIdx k) := by
  rw [← rowsC_append, List.eraseIdx_eq_take_drop_succ]
theorem NetZ.keep1 {w0 w : World} {g : Nat} {n : Int} {cut : List Bool} {cs : List MX} {x : Item} {F Z : List Item} (h : NetZ w0 w g n cut cs (x :: F) Z) : NetZ w0 w g n cut cs [x] (F ++ Z) := by
  obtain ⟨A, c, fl, h1, h2, h3, h4, H⟩ := h
  exact ⟨A, c, fl, h1, h2.mono (sub_app F Z), h3, h4, H⟩
theorem NetZ.al2 {w0 w : World} {g : Nat} {n : Int} {cut : List Bool} {cs : List MX} {a b : Item} {N Z : List Item} (h : NetZ w0 w g n cut cs (a :: (N ++ [b])) Z) : NetZ w0 w g n cut cs [a, b] (N ++ Z) := by
  obtain ⟨A, c, fl, h1, h2, h3, h4, H⟩ := h
  refine ⟨A, c, fl, h1, h2.mono (sub_app N Z), h3, h4, H.perm (List.Perm.cons _ (List.Perm.cons _ (List.Perm.cons _ ?_)))⟩
  show ((N ++ [b]) ++ Z).Perm ([b] ++ (N ++ Z))
  rw [List.append_assoc]
  exact perm_mid N [b] Z
theorem Hp.mid5 {w0 w : World} {x y z u v : Item} (P : List Item) {Z : List Item} (H : Hp w0 w (P ++ (x :: y :: z :: u :: v :: Z))) : Hp w0 w (x :: y :: z :: u :: v :: (P ++ Z)) := H.perm (perm_mid P [x, y, z, u, v] Z)
theorem NetZ.l49 {w0 w : World} {g : Nat} {n : Int} {cut : List Bool} {cs : List MX} {F Z : List Item} (h : NetZ w0 w g n cut cs F Z) : cut.length = 49 := by
  obtain ⟨A, c, fl, h1, h2, h3, h4, H⟩ := h
  exact h4
theorem z_nAct : zeroC Tryd.prog 58 = some (acC ⟨0, ⟨mg0, [], []⟩, 0, 0⟩).toArray := by kernel_rfl
theorem ac_row {w : World} {A : Option Addr} {ac : List Ac} {i : Nat} (h : RdR acC 30 w A ac) (hi : i < ac.length) : ∃ b o, A = some ⟨b, o, none⟩ ∧ w.rangeAt b (o + i * 30) (acC ac[i]) := by
  obtain ⟨b, o, e, hc⟩ := h.at_ hi
  exact ⟨b, o, e, hc i hi⟩
/-- the comparing loop's relation -/
def SmRel (w0 : World) (g : Nat) (n : Int) (cut : List Bool) (cs : List MX) (F Z : List Item) (N : Nat) (v : Value) (wr : World) : Prop := ∃ k : Nat, v = .int .i64 k ∧ k ≤ N ∧ NetZ w0 wr g n cut cs F Z
/-- the loop of a cut: what is left -/
def LfRel (p : MX → Bool) (cs : List MX) (w0 : World) (X1 X2 X3 X4 : Item) (Z : List Item) (v19 v20 : Value) (wr : World) : Prop :=
  ∃ (k : Nat) (left : List MX) (Al : Option Addr) (cl : Nat) (P : List Item), v19 = .slice Al left.length cl ∧ v20 = .int .i64 k ∧ k ≤ cs.length ∧ left = (cs.take k).filter p ∧ Hp w0 wr (mwI Al cl left :: X1 :: X2 :: X3 :: X4 :: (P ++ Z))
/-- the loop's relation -/
def OnRel (w0 : World) (g : Nat) (m : Nat) (N : Nat) (v7 v8 : Value) (wr : World) : Prop := ∃ (i : Nat) (cut : List Bool) (cs : List MX) (Af : Option Addr) (cf : Nat) (Z : List Item), v8 = .int .i64 i ∧ v7 = .slice Af cs.length cf ∧ i ≤ N ∧ OI m cut cs ∧ NetZ w0 wr g (m : Int) cut cs [mwI Af cf cs] Z
/-- behind an act -/
def MdRel (w0 : World) (g : Nat) (m : Nat) (v7 : Value) (wr : World) : Prop := ∃ (cut : List Bool) (cs : List MX) (Af : Option Addr) (cf : Nat) (Z : List Item), v7 = .slice Af cs.length cf ∧ OI m cut cs ∧ NetZ w0 wr g (m : Int) cut cs [mwI Af cf cs] Z
end Go.Proofs.YtiieakndjheknaaDoor
