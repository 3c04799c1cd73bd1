/-
  BOTH NETS: All; what is written into lists that All gave; steps of a walk beside both nets.
-/
import Derived.Test.YtiieakndjheknaaDoorNrF
import Derived.Test.YtiieakndjheknaaDoorNtL
namespace Go.Proofs.YtiieakndjheknaaDoor
set_option maxRecDepth 100000
open Go.RowKit
set_option linter.unusedVariables false
set_option linter.unusedSimpArgs false
section
variable {w0 w : World} {g gw : Nat} {n : Int} {cut cutw : List Bool} {cs csw : List MX} {b : Nat} {F Z : List Item}
theorem PlZ.drew (HP : PlZ w0 w g gw n cut cs cutw csw b F Z) : PlZ w0 w.drew g gw n cut cs cutw csw b F Z := by
  obtain ⟨A, c, fl, Aw, cw, flw, B, d, ps, e1, e2, e3, e4, r1, r2, r3, r4, r5, r6, H⟩ := HP
  exact ⟨A, c, fl, Aw, cw, flw, B, d, ps, e1, e2, e3, e4, r1, r2, r3, r4, r5, r6, H.drew⟩
theorem PlZ.below (HP : PlZ w0 w g gw n cut cs cutw csw b F Z) : Below w0.heap.size w0 w := by
  obtain ⟨A, c, fl, Aw, cw, flw, B, d, ps, e1, e2, e3, e4, r1, r2, r3, r4, r5, r6, H⟩ := HP
  exact H.below
theorem PlZ.call {w' : World} (HP : PlZ w0 w g gw n cut cs cutw csw b F Z) (hb : Below w.heap.size w w') : PlZ w0 w' g gw n cut cs cutw csw b F Z := by
  obtain ⟨A, c, fl, Aw, cw, flw, B, d, ps, e1, e2, e3, e4, r1, r2, r3, r4, r5, r6, H⟩ := HP
  exact ⟨A, c, fl, Aw, cw, flw, B, d, ps, e1, e2, e3, e4, r1, r2, r3, r4, r5, r6, H.call hb⟩
theorem PlZ.le {b' : Nat} (HP : PlZ w0 w g gw n cut cs cutw csw b F Z) (h : b ≤ b') : PlZ w0 w g gw n cut cs cutw csw b' F Z := by
  obtain ⟨A, c, fl, Aw, cw, flw, B, d, ps, e1, e2, e3, e4, r1, r2, r3, r4, r5, r6, H⟩ := HP
  exact ⟨A, c, fl, Aw, cw, flw, B, d, ps, e1, e2, e3, e4, r1, r2, r3, Nat.le_trans r4 h, r5, r6, H⟩
theorem PlZ.len (HP : PlZ w0 w g gw n cut cs cutw csw b F Z) : cs.length ≤ 200 := by
  obtain ⟨A, c, fl, Aw, cw, flw, B, d, ps, e1, e2, e3, e4, r1, r2, r3, r4, r5, r6, H⟩ := HP
  exact e3
/-- what lies beside them, in another order, or less of it -/
theorem PlZ.sub {F' : List Item} (HP : PlZ w0 w g gw n cut cs cutw csw b F Z) (h : F'.Sublist F) : PlZ w0 w g gw n cut cs cutw csw b F' Z := by
  obtain ⟨A, c, fl, Aw, cw, flw, B, d, ps, e1, e2, e3, e4, r1, r2, r3, r4, r5, r6, H⟩ := HP
  exact ⟨A, c, fl, Aw, cw, flw, B, d, ps, e1, e2, e3, e4, r1, r2, r3, r4, r5, r6, H.sub (((((h.append (List.Sublist.refl Z)).cons_cons _).cons_cons _).cons_cons _).cons_cons _ |>.cons_cons _)⟩
theorem PlZ.hold {x : Item} (HP : PlZ w0 w g gw n cut cs cutw csw b F Z) (h : x ∈ F ++ Z) : x.holds w0.heap.size w := by
  obtain ⟨A, c, fl, Aw, cw, flw, B, d, ps, e1, e2, e3, e4, r1, r2, r3, r4, r5, r6, H⟩ := HP
  exact H.holds _ (List.mem_cons_of_mem _ (List.mem_cons_of_mem _ (List.mem_cons_of_mem _ (List.mem_cons_of_mem _ (List.mem_cons_of_mem _ h)))))
/-- the world holds these, at the end of a list of items -/
theorem PlZ.W {L0 F1 : List Item} (HP : PlZ w0 w g gw n cut cs cutw csw b (F1 ++ L0) Z) : HpW w0 L0 w := by
  obtain ⟨A, c, fl, Aw, cw, flw, B, d, ps, e1, e2, e3, e4, r1, r2, r3, r4, r5, r6, H⟩ := HP
  refine ⟨netI g n A fl.length c cut :: mwI A c fl :: rfI gw n Aw flw.length cw B ps.length d :: mwI Aw cw flw :: prI B d ps :: (F1 ++ Z), H.perm ?_⟩
  refine List.Perm.cons _ (List.Perm.cons _ (List.Perm.cons _ (List.Perm.cons _ (List.Perm.cons _ ?_))))
  show ((F1 ++ L0) ++ Z).Perm ((F1 ++ Z) ++ L0)
  rw [List.append_assoc, List.append_assoc]
  exact (List.perm_append_comm).append_left F1
theorem PlZ.MS {m : Mg} {rs : List Rp} {l : List UInt8} (HP : PlZ w0 w g gw n cut cs cutw csw b F Z) (hM : MgS w0 (F ++ Z) m rs l) : MgR w m rs l := by
  obtain ⟨A, c, fl, Aw, cw, flw, B, d, ps, e1, e2, e3, e4, r1, r2, r3, r4, r5, r6, H⟩ := HP
  exact hM _ _ (fun i hi => List.mem_cons_of_mem _ (sub4 hi)) H
theorem PlZ.new (hN : ∀ x y, cutP [] x y = cutB n cut0 x y) (H : Hp w0 w [rfI gw n none 0 0 none 0 0, netI g n none 0 0 cut0]) : PlZ w0 w g gw n cut0 [] cut0 [] 0 [] [] := by
  refine ⟨none, 0, [], none, 0, [], none, 0, [], rfl, Held.nil _, Nat.zero_le _, by decide, rfl, Held.nil _, Nat.zero_le _, Nat.zero_le _, by decide, hN, ?_⟩
  exact ((((H.nilRow 34 27).nilRow 34 27).nilRow 86 2)).pick [4, 1, 3, 2, 0] (by decide) rfl
/-- an item more -/
theorem PlZ.add {x : Item} {w' : World} (HP : PlZ w0 w g gw n cut cs cutw csw b F Z) (h : ∀ L, Hp w0 w L → Hp w0 w' (x :: L)) : PlZ w0 w' g gw n cut cs cutw csw b (x :: F) Z := by
  obtain ⟨A, c, fl, Aw, cw, flw, B, d, ps, e1, e2, e3, e4, r1, r2, r3, r4, r5, r6, H⟩ := HP
  exact ⟨A, c, fl, Aw, cw, flw, B, d, ps, e1, e2, e3, e4, r1, r2, r3, r4, r5, r6, (h _ H).perm (perm_mid [_] [_, _, _, _, _] (F ++ Z))⟩
theorem PlZ.add2 {x y : Item} {w' : World} (HP : PlZ w0 w g gw n cut cs cutw csw b F Z) (h : ∀ L, Hp w0 w L → Hp w0 w' (x :: y :: L)) : PlZ w0 w' g gw n cut cs cutw csw b (x :: y :: F) Z := by
  obtain ⟨A, c, fl, Aw, cw, flw, B, d, ps, e1, e2, e3, e4, r1, r2, r3, r4, r5, r6, H⟩ := HP
  exact ⟨A, c, fl, Aw, cw, flw, B, d, ps, e1, e2, e3, e4, r1, r2, r3, r4, r5, r6, (h _ H).perm (perm_mid [_, _] [_, _, _, _, _] (F ++ Z))⟩
/-- an item goes to the rest -/
theorem PlZ.tuck {F1 : List Item} (HP : PlZ w0 w g gw n cut cs cutw csw b (F1 ++ F) Z) : PlZ w0 w g gw n cut cs cutw csw b F (F1 ++ Z) := by
  obtain ⟨A, c, fl, Aw, cw, flw, B, d, ps, e1, e2, e3, e4, r1, r2, r3, r4, r5, r6, H⟩ := HP
  refine ⟨A, c, fl, Aw, cw, flw, B, d, ps, e1, e2.mono (sub_app F1 Z), e3, e4, r1, r2.mono (sub_app F1 Z), r3, r4, r5, r6, H.perm (List.Perm.append_left [_, _, _, _, _] ?_)⟩
  show ((F1 ++ F) ++ Z).Perm (F ++ (F1 ++ Z))
  rw [List.append_assoc]
  exact perm_mid F1 F Z
end
/-! All -/
def RetPA (w0 : World) (g gw : Nat) (n : Int) (cut : List Bool) (cs : List MX) (cutw : List Bool) (csw : List MX) (b : Nat) (F Z : List Item) (e : Ending) (w' : World) : Prop :=
  ∃ Ao co out N Z', e = .returned (.slice Ao out.length co) ∧ out.map cx = cs ∧ Held N out ∧ Z ⊆ Z' ∧ PlZ w0 w' g gw n cut cs cutw csw b (F ++ (mwI Ao co out :: N)) Z'
theorem pall_o {w0 w : World} {g gw : Nat} {n : Int} {cut cutw : List Bool} {cs csw : List MX} {b : Nat} {F Z : List Item} (HP : PlZ w0 w g gw n cut cs cutw csw b F Z) (hn : crowdB n = true) :
    Calls Tryd.prog 16 #[.pointer (some ⟨g, 0, none⟩)] w (RetPA w0 g gw n cut cs cutw csw b F Z) := by
  obtain ⟨A, c, fl, Aw, cw, flw, B, d, ps, e1, e2, e3, e4, r1, r2, r3, r4, r5, r6, H⟩ := HP
  refine (nall_o (F := [rfI gw n Aw flw.length cw B ps.length d, mwI Aw cw flw, prI B d ps] ++ F) (Z := Z) ⟨A, c, fl, e1, e2, e3, e4, H⟩ hn).mono ?_
  rintro e w' ⟨Ao, co, out, N, Z2, rfl, ho, hN, hZs, A', c', fl', k1, k2, k3, k4, H'⟩
  refine ⟨Ao, co, out, N, Z2, rfl, ho, hN, hZs, A', c', fl', Aw, cw, flw, B, d, ps, k1, k2, k3, k4, r1, r2.mono hZs, r3, r4, r5, r6, H'.perm (List.Perm.append_left [_, _] ?_)⟩
  have h1 := perm_mid (mwI Ao co out :: N) [rfI gw n Aw flw.length cw B ps.length d, mwI Aw cw flw, prI B d ps] (F ++ Z2)
  have h2 := perm_mid (mwI Ao co out :: N) F Z2
  rw [← List.append_assoc F] at h2
  have h3 := h1.trans (h2.append_left [rfI gw n Aw flw.length cw B ps.length d, mwI Aw cw flw, prI B d ps])
  refine List.Perm.trans (List.Perm.of_eq ?_) h3
  show ((mwI Ao co out :: (N ++ ([rfI gw n Aw flw.length cw B ps.length d, mwI Aw cw flw, prI B d ps] ++ F))) ++ Z2) = _
  simp
/-! what is written into the lists that All gave -/
def HeldW (N : List Item) (out : List MX) : Prop := ∀ x ∈ out,
  (∃ (i : Nat) (l : List UInt8), l.length = x.m.yn ∧ N[i]? = some (.bytes x.m.yA x.m.yc l)) ∧ (∃ (i : Nat) (xs : List Value), xs.length = x.m.rn * 11 ∧ N[i]? = some (.own 71 11 x.m.rA x.m.rn x.m.rc xs))
theorem Held.weak {N : List Item} {out : List MX} (h : Held N out) : HeldW N out := by
  intro x hx
  obtain ⟨ho, h1, h2⟩ := h x hx
  obtain ⟨i, hi, ei⟩ := List.getElem_of_mem h1
  obtain ⟨j, hj, ej⟩ := List.getElem_of_mem h2
  refine ⟨⟨i, x.l, ho.2.1.symm, by rw [List.getElem?_eq_getElem hi, ei]⟩, ⟨j, rowsC rpC x.rs, by rw [rowsC_len rpC_len, ho.1], ?_⟩⟩
  rw [List.getElem?_eq_getElem hj, ej, ho.1]
theorem HeldW.setB {N : List Item} {out : List MX} (h : HeldW N out) {i : Nat} {A : Option Addr} {c : Nat} {l : List UInt8} (hi : N[i]? = some (.bytes A c l)) (k : Nat) (u : UInt8) : HeldW (N.set i (.bytes A c (l.set k u))) out := by
  have hl : i < N.length := (List.getElem?_eq_some_iff.1 hi).1
  intro x hx
  obtain ⟨⟨a, l1, q1, q2⟩, ⟨d, xs, q3, q4⟩⟩ := h x hx
  constructor
  · by_cases e : i = a
    · subst e
      rw [hi] at q2
      injection q2 with q2
      injection q2 with _ _ f1 f2 f3 _
      refine ⟨i, l.set k u, by rw [List.length_set, ← q1, f2], ?_⟩
      rw [List.getElem?_set_self hl, f1, f3]
    · exact ⟨a, l1, q1, by rw [List.getElem?_set_ne e, q2]⟩
  · by_cases e : i = d
    · subst e
      rw [hi] at q4
      injection q4 with q4
      injection q4 with f0 _ _ _ _ _
      exact absurd f0 (by decide)
    · exact ⟨d, xs, q3, by rw [List.getElem?_set_ne e, q4]⟩
theorem HeldW.setR {N : List Item} {out : List MX} (h : HeldW N out) {i : Nat} {A : Option Addr} {c m : Nat} {xs : List Value} (hi : N[i]? = some (.own 71 11 A m c xs)) (k : Nat) (u : Value) : HeldW (N.set i (.own 71 11 A m c (xs.set k u))) out := by
  have hl : i < N.length := (List.getElem?_eq_some_iff.1 hi).1
  intro x hx
  obtain ⟨⟨a, l1, q1, q2⟩, ⟨d, ys, q3, q4⟩⟩ := h x hx
  constructor
  · by_cases e : i = a
    · subst e
      rw [hi] at q2
      injection q2 with q2
      injection q2 with f0 _ _ _ _ _
      exact absurd f0 (by decide)
    · exact ⟨a, l1, q1, by rw [List.getElem?_set_ne e, q2]⟩
  · by_cases e : i = d
    · subst e
      rw [hi] at q4
      injection q4 with q4
      injection q4 with _ _ f1 f2 f3 f4
      refine ⟨i, xs.set k u, by rw [List.length_set, ← q3, f4], ?_⟩
      rw [List.getElem?_set_self hl, f1, f2, f3]
    · exact ⟨d, ys, q3, by rw [List.getElem?_set_ne e, q4]⟩
theorem Hp.setOwnX {w0 w : World} {L : List Item} (H : Hp w0 w L) (i : Nat) {e : TypeId} {sz g n c : Nat} {xs : List Value} (hL : L[i]? = some (.own e sz (some ⟨g, 0, none⟩) n c xs)) (k : Nat) (v : Value) :
    Hp w0 (w.setCell ⟨g, k, none⟩ v) (L.set i (.own e sz (some ⟨g, 0, none⟩) n c (xs.set k v))) := by
  have hi : i < L.length := (List.getElem?_eq_some_iff.1 hL).1
  have H1 := H.front i hL
  have hfr := (H1.fresh _ List.mem_cons_self g rfl)
  refine Hp.back i hi (H1.upd (H.below.setCell hfr.1 _) (by simp) ?_ ?_ ?_)
  · intro k hk hne
    exact Below.heap_setCell _ _ _ _ (fun e => hne (by simp [Item.foot, e]))
  · exact (World.ownsRow.stored (H1.holds _ List.mem_cons_self) k v).1
  · intro k hk
    simp [Item.foot] at hk
    subst hk
    exact ⟨.inl rfl, hfr.1, by simpa using hfr.2⟩
section
variable {w0 w : World} {g gw : Nat} {n : Int} {cut cutw : List Bool} {cs csw : List MX} {b : Nat} {F Z : List Item}
theorem PlZ.setOwn (HP : PlZ w0 w g gw n cut cs cutw csw b F Z) (i : Nat) {e : TypeId} {sz go m c2 : Nat} {xs : List Value} (hL : F[i]? = some (.own e sz (some ⟨go, 0, none⟩) m c2 xs)) (k : Nat) (v : Value) :
    PlZ w0 (w.setCell ⟨go, k, none⟩ v) g gw n cut cs cutw csw b (F.set i (.own e sz (some ⟨go, 0, none⟩) m c2 (xs.set k v))) Z := by
  obtain ⟨A, c, fl, Aw, cw, flw, B, d, ps, e1, e2, e3, e4, r1, r2, r3, r4, r5, r6, H⟩ := HP
  have hi : i < F.length := (List.getElem?_eq_some_iff.1 hL).1
  refine ⟨A, c, fl, Aw, cw, flw, B, d, ps, e1, e2, e3, e4, r1, r2, r3, r4, r5, r6, ?_⟩
  have h1 := H.setOwnX (i + 5) (by
    show (F ++ Z)[i]? = _
    rw [List.getElem?_append_left hi]
    exact hL) k v
  have h2 : (F ++ Z).set i (.own e sz (some ⟨go, 0, none⟩) m c2 (xs.set k v)) = F.set i (.own e sz (some ⟨go, 0, none⟩) m c2 (xs.set k v)) ++ Z := List.set_append_left _ _ hi
  rw [← h2]
  exact h1
/-- a field of a message of those that All gave -/
theorem PlZ.fld {Ao : Option Addr} {co : Nat} {out : List MX} (HP : PlZ w0 w g gw n cut cs cutw csw b F Z) (hm : mwI Ao co out ∈ F) {k : Nat} (hk : k < out.length) : ∃ gO, Ao = some ⟨gO, 0, none⟩ ∧ ∀ j v, (mgC out[k].m)[j]? = some v → w.cell? ⟨gO, k * 27 + j, none⟩ = some v := by
  have h1 := HP.hold (List.mem_append_left Z hm)
  obtain ⟨gO, cap, hv, _, _⟩ := World.ownsRow.form h1 (by omega)
  injection hv with hA
  subst hA
  refine ⟨gO, rfl, fun j v hj => ?_⟩
  obtain ⟨b', o', e', hc⟩ := (World.ownsRow.rdR mxC_len h1).at_ hk
  injection e' with e'
  injection e' with e1 e2
  subst e1 e2
  have := hc k hk j v hj
  rwa [Nat.zero_add] at this
end
section
variable {a : Act} {w0 w : World} {Q : Exit → Act → World → Prop} {ops : Array Oper} {rest : List Oper} {d : Option Tmp} {ty tt : TypeId} {ps : String} {af : Array Edge} {gd : Option (Nat × Bool)} {x y : Operand} {g gw : Nat} {n : Int} {cut cutw : List Bool} {cs csw : List MX} {b : Nat} {F Z : List Item}
/-- a byte is stored -/
theorem PlZ.stB (HP : PlZ w0 w g gw n cut cs cutw csw b F Z) (h : Region.wanted { dst := d, op := .store 5 x y, type := tt, pos := ps, after := af, guard := gd } (yielded ops a.tmps) = true ∧ ∃ go off, a.eval x = .pointer (some ⟨go, off, none⟩) ∧ ∃ v, a.eval y = .int .u8 v ∧ (0 ≤ v ∧ v < 256) ∧
    ∃ i c l, F[i]? = some (.bytes (some ⟨go, 0, none⟩) c l) ∧ off < l.length ∧ ∀ (u : UInt8) w', PlZ w0 w' g gw n cut cs cutw csw b (F.set i (.bytes (some ⟨go, 0, none⟩) c (l.set off u))) Z → wpList Tryd.prog ops Q rest (a.put d undef) w') :
    wpList Tryd.prog ops Q ({ dst := d, op := .store 5 x y, type := tt, pos := ps, after := af, guard := gd } :: rest) a w := by
  obtain ⟨h1, go, off, hx, v, hy, hv, i, c, l, hL, hlt, hk⟩ := h
  have hu : ((UInt8.ofNat v.toNat).toNat : Int) = v := by
    rw [UInt8.toNat_ofNat']
    omega
  have ho : Own w w0.heap.size (some ⟨go, 0, none⟩) c l := HP.hold (List.mem_append_left Z (List.mem_of_getElem? hL))
  have h4 := HP.setOwn i hL off (.int .u8 ((UInt8.ofNat v.toNat).toNat : Int))
  have e : Item.own 5 1 (some ⟨go, 0, none⟩) l.length c ((bvs l).set off (.int .u8 ((UInt8.ofNat v.toNat).toNat : Int))) = .bytes (some ⟨go, 0, none⟩) c (l.set off (UInt8.ofNat v.toNat)) := by
    unfold Item.bytes
    rw [List.length_set]
    simp [bvs, List.map_set]
  rw [e] at h4
  have h2 := hk (UInt8.ofNat v.toNat) _ h4
  rw [hu] at h2
  have h3 := run_storeAt_cell (P := Tryd.prog) (v := .int .u8 v) (oneT_s c_u8) (ho.cell off hlt) (ho.frozen off) rfl
  refine BigFrame.wpList_want h1 fun K hK => ?_
  unfold Oper.wp
  simp [execOp, hx, hy, h3]
  exact hK _ _ h2
/-- a number is stored into a row of reports -/
theorem PlZ.stR (HP : PlZ w0 w g gw n cut cs cutw csw b F Z) (h : Region.wanted { dst := d, op := .store 3 x y, type := tt, pos := ps, after := af, guard := gd } (yielded ops a.tmps) = true ∧ ∃ go off, a.eval x = .pointer (some ⟨go, off, none⟩) ∧ ∃ v, a.eval y = .int .i64 v ∧
    ∃ i c m xs, F[i]? = some (.own 71 11 (some ⟨go, 0, none⟩) m c xs) ∧ xs.length = m * 11 ∧ off < xs.length ∧ ∀ w', PlZ w0 w' g gw n cut cs cutw csw b (F.set i (.own 71 11 (some ⟨go, 0, none⟩) m c (xs.set off (.int .i64 v)))) Z → wpList Tryd.prog ops Q rest (a.put d undef) w') :
    wpList Tryd.prog ops Q ({ dst := d, op := .store 3 x y, type := tt, pos := ps, after := af, guard := gd } :: rest) a w := by
  obtain ⟨h1, go, off, hx, v, hy, i, c, m, xs, hL, hxs, hlt, hk⟩ := h
  have ho : w.ownsRow w0.heap.size 71 11 (.slice (some ⟨go, 0, none⟩) m c) m xs := HP.hold (List.mem_append_left Z (List.mem_of_getElem? hL))
  have h4 := hk _ (HP.setOwn i hL off (.int .i64 v))
  have hc : w.cell? ⟨go, off, none⟩ = some xs[off] := (World.ownsRow.cellAt ho off (by omega)).trans (List.getElem?_eq_getElem hlt)
  have h3 := run_storeAt_cell (P := Tryd.prog) (v := .int .i64 v) (oneT_s c_int) hc (World.ownsRow.frozenAt ho off) rfl
  refine BigFrame.wpList_want h1 fun K hK => ?_
  unfold Oper.wp
  simp [execOp, hx, hy, h3]
  exact hK _ _ h4
/-- a field of a block beside the nets -/
theorem PlZ.ldc (HP : PlZ w0 w g gw n cut cs cutw csw b F Z) (h : Region.wanted { dst := d, op := .load ty x, type := tt, pos := ps, after := af, guard := gd } (yielded ops a.tmps) = true ∧ oneT Tryd.prog ty = true ∧ ∃ gb off, a.eval x = .pointer (some ⟨gb, off, none⟩) ∧ ∃ (i : Nat) (t : TypeId) (vs : List Value), F[i]? = some (.blk gb t vs) ∧ ∃ v, vs[off]? = some v ∧ wpList Tryd.prog ops Q rest (a.put d v) w) :
    wpList Tryd.prog ops Q ({ dst := d, op := .load ty x, type := tt, pos := ps, after := af, guard := gd } :: rest) a w := by
  obtain ⟨A, c, fl, Aw, cw, flw, B, e, pr, e1, e2, e3, e4, r1, r2, r3, r4, r5, r6, H⟩ := HP
  obtain ⟨q1, q2, gb, off, q3, i, t, vs, q4, v, q5, q6⟩ := h
  have hi : i < F.length := (List.getElem?_eq_some_iff.1 q4).1
  have hL : (netI g n A fl.length c cut :: mwI A c fl :: rfI gw n Aw flw.length cw B pr.length e :: mwI Aw cw flw :: prI B e pr :: (F ++ Z))[i + 5]? = some (.blk gb t vs) := by
    show (F ++ Z)[i]? = _
    rw [List.getElem?_append_left hi]
    exact q4
  have hc := H.c (i + 5) hL off q5
  exact wl_ldc ⟨q1, q2, _, q3, v, hc, q6⟩
/-- a whole struct, or a part of one, of a block beside the nets -/
theorem PlZ.ldr (HP : PlZ w0 w g gw n cut cs cutw csw b F Z) (h : Region.wanted { dst := d, op := .load ty x, type := tt, pos := ps, after := af, guard := gd } (yielded ops a.tmps) = true ∧ rowT Tryd.prog ty = true ∧ ∃ gb off, a.eval x = .pointer (some ⟨gb, off, none⟩) ∧ ∃ (i : Nat) (t : TypeId) (cs : List Value), F[i]? = some (.blk gb t cs) ∧ ∃ vs : List Value, sizeT Tryd.prog ty = some vs.length ∧ (cs.drop off).take vs.length = vs ∧ wpList Tryd.prog ops Q rest (a.put d (.agg vs.toArray)) w) :
    wpList Tryd.prog ops Q ({ dst := d, op := .load ty x, type := tt, pos := ps, after := af, guard := gd } :: rest) a w := by
  obtain ⟨A, c, fl, Aw, cw, flw, B, e, pr, e1, e2, e3, e4, r1, r2, r3, r4, r5, r6, H⟩ := HP
  obtain ⟨q1, q2, gb, off, q3, i, t, cl, q4, vs, q5, q6, q7⟩ := h
  have hi : i < F.length := (List.getElem?_eq_some_iff.1 q4).1
  have hL : (netI g n A fl.length c cut :: mwI A c fl :: rfI gw n Aw flw.length cw B pr.length e :: mwI Aw cw flw :: prI B e pr :: (F ++ Z))[i + 5]? = some (.blk gb t cl) := by
    show (F ++ Z)[i]? = _
    rw [List.getElem?_append_left hi]
    exact q4
  have hr := H.range (i + 5) hL off vs.length q6
  have := run_loadAt_row (P := Tryd.prog) q2 q5 hr
  exact wl_val _ q1 (by simp [execOp, q3, this]) q7
/-- a block of its own -/
theorem PlZ.allo (HP : PlZ w0 w g gw n cut cs cutw csw b F Z) (h : Region.wanted { dst := d, op := .alloc ty, type := tt, pos := ps, after := af, guard := gd } (yielded ops a.tmps) = true ∧ ∃ vs : List Value, zeroC Tryd.prog ty = some vs.toArray ∧
    ∀ gn w', PlZ w0 w' g gw n cut cs cutw csw b (.blk gn ty vs :: F) Z → wpList Tryd.prog ops Q rest (a.put d (.pointer (some ⟨gn, 0, none⟩))) w') :
    wpList Tryd.prog ops Q ({ dst := d, op := .alloc ty, type := tt, pos := ps, after := af, guard := gd } :: rest) a w := by
  obtain ⟨A, c, fl, Aw, cw, flw, B, e, pr, e1, e2, e3, e4, r1, r2, r3, r4, r5, r6, H⟩ := HP
  obtain ⟨q1, vs, q2, q3⟩ := h
  refine H.allo ⟨q1, vs, q2, fun gn w' H' => q3 gn w' ?_⟩
  exact ⟨A, c, fl, Aw, cw, flw, B, e, pr, e1, e2, e3, e4, r1, r2, r3, r4, r5, r6, H'.perm (perm_mid [_] [_, _, _, _, _] (F ++ Z))⟩
/-- a struct is stored into the block that lies first beside the nets -/
theorem PlZ.sta {gb : Nat} {t : TypeId} {us : List Value} (HP : PlZ w0 w g gw n cut cs cutw csw b (.blk gb t us :: F) Z) (h : Region.wanted { dst := d, op := .store ty x y, type := tt, pos := ps, after := af, guard := gd } (yielded ops a.tmps) = true ∧ ∃ k, sizeT Tryd.prog ty = some k ∧ a.eval x = .pointer (some ⟨gb, 0, none⟩) ∧ ∃ vs : List Value, a.eval y = .agg vs.toArray ∧ us.length = k ∧ vs.length = k ∧ vs.all (·.oneCell') = true ∧
    ∀ w', PlZ w0 w' g gw n cut cs cutw csw b (.blk gb t vs :: F) Z → wpList Tryd.prog ops Q rest (a.put d undef) w') :
    wpList Tryd.prog ops Q ({ dst := d, op := .store ty x y, type := tt, pos := ps, after := af, guard := gd } :: rest) a w := by
  obtain ⟨A, c, fl, Aw, cw, flw, B, e, pr, e1, e2, e3, e4, r1, r2, r3, r4, r5, r6, H⟩ := HP
  obtain ⟨q1, k, q2, q3, vs, q4, q5, q6, q7, q8⟩ := h
  refine H.sta ⟨q1, k, q2, gb, q3, vs, q4, q6, 5, t, us, .s (.s (.s (.s (.s .z)))), q7, q5, fun w' H' => q8 w' ?_⟩
  exact ⟨A, c, fl, Aw, cw, flw, B, e, pr, e1, e2, e3, e4, r1, r2, r3, r4, r5, r6, H'⟩
end
end Go.Proofs.YtiieakndjheknaaDoor
