/-
  PLAIN AND HEAP: messages that fly, and where they lie; a net.
-/
import Derived.Test.YtiieakndjheknaaDoorPk4
namespace Go.Proofs.YtiieakndjheknaaDoor
set_option maxRecDepth 100000
open Go.RowKit
set_option linter.unusedVariables false
set_option linter.unusedSimpArgs false
/-- a message, its reports, its bytes -/
structure MX where
  m : Mg
  rs : List Rp
  l : List UInt8
/-- but for where it lies -/
def cx (x : MX) : MX := ⟨cpM x.m x.rs x.l none 0 none 0, x.rs, x.l⟩
def OkX (x : MX) : Prop := x.m.rn = x.rs.length ∧ x.m.yn = x.l.length ∧ MgN x.m ∧ (∀ r ∈ x.rs, RpOk r) ∧ x.rs.length ≤ 1000000 ∧ x.l.length ≤ 1000000
abbrev bI (x : MX) : Item := .bytes x.m.yA x.m.yc x.l
abbrev rI (x : MX) : Item := rwI x.m.rA x.m.rc x.rs
/-- their lists lie here -/
def Held (Z : List Item) (fl : List MX) : Prop := ∀ x ∈ fl, OkX x ∧ bI x ∈ Z ∧ rI x ∈ Z
theorem Held.nil (Z : List Item) : Held Z [] := fun x h => by cases h
theorem Held.mono {Z Z' : List Item} {fl : List MX} (h : Held Z fl) (s : Z ⊆ Z') : Held Z' fl := fun x hx => ⟨(h x hx).1, s (h x hx).2.1, s (h x hx).2.2⟩
theorem Held.sub {Z : List Item} {fl fl' : List MX} (h : Held Z fl) (s : fl' ⊆ fl) : Held Z fl' := fun x hx => h x (s hx)
theorem Held.snoc {Z : List Item} {fl : List MX} {x : MX} (h : Held Z fl) (h1 : OkX x) (h2 : bI x ∈ Z) (h3 : rI x ∈ Z) : Held Z (fl ++ [x]) := by
  intro y hy
  rcases List.mem_append.1 hy with hy | hy
  · exact h y hy
  · obtain rfl := List.mem_singleton.1 hy
    exact ⟨h1, h2, h3⟩
theorem Held.R {Z L : List Item} {fl : List MX} {x : MX} {w0 w : World} (h : Held Z fl) (hx : x ∈ fl) (H : Hp w0 w L) (s : Z ⊆ L) : MgR w x.m x.rs x.l := by
  obtain ⟨⟨h1, h2, h3, h4, h5, h6⟩, g1, g2⟩ := h x hx
  obtain ⟨i, hi, ei⟩ := List.getElem_of_mem (s g1)
  obtain ⟨j, hj, ej⟩ := List.getElem_of_mem (s g2)
  have ei' : L[i]? = some (bI x) := by rw [List.getElem?_eq_getElem hi, ei]
  have ej' : L[j]? = some (rI x) := by rw [List.getElem?_eq_getElem hj, ej]
  have k1 := (H.o i ei').caps
  have k2 := own_caps (H.holds _ (s g2))
  exact ⟨h1, RRp.ofR (H.rd rpC_len j ej'), h4, by omega, k2.2, h2, (H.o i ei').rd, by omega, k1.2⟩
/-- a net -/
def netC (n : Int) (A : Option Addr) (k c : Nat) (cut : List Bool) : List Value := .int .i64 n :: .slice A k c :: cut.map Value.bool
abbrev netI (g : Nat) (n : Int) (A : Option Addr) (k c : Nat) (cut : List Bool) : Item := .blk g 41 (netC n A k c cut)
abbrev mxC (x : MX) : List Value := mgC x.m
theorem mxC_len (x : MX) : (mxC x).length = 27 := rfl
theorem mgC_one (m : Mg) : ∀ u ∈ mgC m, u.oneCell' = true := by
  intro u hu
  simp only [mgC, List.mem_cons, List.not_mem_nil, or_false] at hu
  rcases hu with rfl | rfl | rfl | rfl | rfl | rfl | rfl | rfl | rfl | rfl | rfl | rfl | rfl | rfl | rfl | rfl | rfl | rfl | rfl | rfl | rfl | rfl | rfl | rfl | rfl | rfl | rfl <;> rfl
theorem mxC_one (x : MX) : ∀ u ∈ mxC x, u.oneCell' = true := mgC_one x.m
abbrev mwI (A : Option Addr) (c : Nat) (fl : List MX) : Item := .rows 34 27 mxC A c fl
theorem ms_u : Tryd.prog.underlying 37 = some (.slice 34) := Tryd.underlying37
theorem ms_info : (Tryd.prog.info? 34).map (fun i => (i.zero, i.size, i.bytes)) = some (some (.agg (mgC mg0).toArray), 27, 304) := by kernel_rfl
theorem ms_info2 : (Tryd.prog.info? 34).map (fun i => (i.zero.isSome, i.size)) = some (true, 27) := by kernel_rfl
/-- a net that lies at g; the items F, and whatever else (Z), beside it -/
def NetZ (w0 w : World) (g : Nat) (n : Int) (cut : List Bool) (cs : List MX) (F Z : List Item) : Prop :=
  ∃ A c fl, fl.map cx = cs ∧ Held Z fl ∧ cs.length ≤ 200 ∧ cut.length = 49 ∧ Hp w0 w (netI g n A fl.length c cut :: mwI A c fl :: (F ++ Z))
def RetN (w0 : World) (g : Nat) (n : Int) (cut : List Bool) (cs : List MX) (F Z : List Item) (v : Value) (e : Ending) (w' : World) : Prop :=
  e = .returned v ∧ ∃ Z', Z ⊆ Z' ∧ NetZ w0 w' g n cut cs F Z'
theorem NetZ.call {w0 w w' : World} {g : Nat} {n : Int} {cut : List Bool} {cs : List MX} {F Z : List Item} (h : NetZ w0 w g n cut cs F Z) (hb : Below w.heap.size w w') : NetZ w0 w' g n cut cs F Z := by
  obtain ⟨A, c, fl, h1, h2, h3, h4, H⟩ := h
  exact ⟨A, c, fl, h1, h2, h3, h4, H.call hb⟩
theorem NetZ.below {w0 w : World} {g : Nat} {n : Int} {cut : List Bool} {cs : List MX} {F Z : List Item} (h : NetZ w0 w g n cut cs F Z) : Below w0.heap.size w0 w := by
  obtain ⟨A, c, fl, h1, h2, h3, h4, H⟩ := h
  exact H.below
theorem perm_mid {α : Type} (P M Z : List α) : (P ++ (M ++ Z)).Perm (M ++ (P ++ Z)) := by
  rw [← List.append_assoc, ← List.append_assoc]
  exact List.perm_append_comm.append_right Z
theorem Hp.mid2 {w0 w : World} {x y : Item} (P : List Item) {Z : List Item} (H : Hp w0 w (P ++ (x :: y :: Z))) : Hp w0 w (x :: y :: (P ++ Z)) := H.perm (perm_mid P [x, y] Z)
theorem Hp.mid3 {w0 w : World} {x y z : Item} (P : List Item) {Z : List Item} (H : Hp w0 w (P ++ (x :: y :: z :: Z))) : Hp w0 w (x :: y :: z :: (P ++ Z)) := H.perm (perm_mid P [x, y, z] Z)
theorem Hp.cut {w0 w : World} (P : List Item) {Z : List Item} (H : Hp w0 w (P ++ Z)) : Hp w0 w Z := H.sub (List.sublist_append_right P Z)
theorem sub_app {α : Type} (P Z : List α) : Z ⊆ P ++ Z := List.subset_append_right P Z
theorem sub_F {x y : Item} (F Z : List Item) : Z ⊆ x :: y :: (F ++ Z) := fun i hi => List.mem_cons_of_mem _ (List.mem_cons_of_mem _ (List.mem_append_right F hi))
theorem Hp.midd {w0 w : World} {x y : Item} (P1 P2 : List Item) {F Z : List Item} (H : Hp w0 w (P1 ++ (x :: y :: (P2 ++ (F ++ Z))))) : Hp w0 w (x :: y :: (F ++ (P1 ++ (P2 ++ Z)))) := by
  refine H.perm ((perm_mid P1 [x, y] (P2 ++ (F ++ Z))).trans ?_)
  refine List.Perm.append_left [x, y] ?_
  rw [← List.append_assoc P1, ← List.append_assoc P1]
  exact perm_mid (P1 ++ P2) F Z
theorem NetZ.drop {w0 w : World} {g : Nat} {n : Int} {cut : List Bool} {cs : List MX} {x : Item} {F Z : List Item} (h : NetZ w0 w g n cut cs (x :: F) Z) : NetZ w0 w g n cut cs F Z := by
  obtain ⟨A, c, fl, h1, h2, h3, h4, H⟩ := h
  exact ⟨A, c, fl, h1, h2, h3, h4, H.sub (((List.sublist_cons_self x (F ++ Z)).cons_cons _).cons_cons _)⟩
theorem RetN.drop {w0 : World} {g : Nat} {n : Int} {cut : List Bool} {cs : List MX} {x : Item} {F Z : List Item} {v : Value} {e : Ending} {w' : World} (h : RetN w0 g n cut cs (x :: F) Z v e w') : RetN w0 g n cut cs F Z v e w' := by
  obtain ⟨h1, Z', h2, h3⟩ := h
  exact ⟨h1, Z', h2, h3.drop⟩
theorem NetZ.mk1 {w0 w : World} {g : Nat} {n : Int} {A : Option Addr} {c : Nat} {cut : List Bool} {cs fl : List MX} {x : Item} {F Z : List Item} (h1 : fl.map cx = cs) (h2 : Held Z fl) (h3 : cs.length ≤ 200) (h4 : cut.length = 49) (H : Hp w0 w (x :: netI g n A fl.length c cut :: mwI A c fl :: (F ++ Z))) : NetZ w0 w g n cut cs (x :: F) Z := ⟨A, c, fl, h1, h2, h3, h4, H.rot3⟩
theorem mw_app (fl : List MX) (x : MX) (A : Option Addr) (c : Nat) : Item.own 34 27 A (fl.length + 1) c (rowsC mxC fl ++ mgC x.m) = mwI A c (fl ++ [x]) := by
  unfold mwI Item.rows
  rw [rowsC_snoc, List.length_append]
  rfl
/-- a message that reads so as long as these items stand -/
def MgS (w0 : World) (Y : List Item) (m : Mg) (rs : List Rp) (l : List UInt8) : Prop := ∀ w1 L, Y ⊆ L → Hp w0 w1 L → MgR w1 m rs l
theorem MgS.at_ {w0 : World} {Y L : List Item} {m : Mg} {rs : List Rp} {l : List UInt8} (h : MgS w0 Y m rs l) (x : HpS w0 L) (s : Y ⊆ L) : MgR x.val m rs l := h _ _ s x.2
theorem MgS.old {w0 : World} {m : Mg} {rs : List Rp} {l : List UInt8} (h : MgR w0 m rs l) (Y : List Item) : MgS w0 Y m rs l := fun w1 L s H => h.below H.below
theorem MgS.mono {w0 : World} {Y Y' : List Item} {m : Mg} {rs : List Rp} {l : List UInt8} (h : MgS w0 Y m rs l) (s : Y ⊆ Y') : MgS w0 Y' m rs l := fun w1 L s' H => h w1 L (fun i hi => s' (s hi)) H
theorem Held.S {Z : List Item} {fl : List MX} {x : MX} (h : Held Z fl) (hx : x ∈ fl) (w0 : World) : MgS w0 Z x.m x.rs x.l := fun w1 L s H => h.R hx H s
theorem sub2 {a b : Item} {Y : List Item} : Y ⊆ a :: b :: Y := fun i hi => List.mem_cons_of_mem _ (List.mem_cons_of_mem _ hi)
theorem sub3 {a b c : Item} {Y : List Item} : Y ⊆ a :: b :: c :: Y := fun i hi => List.mem_cons_of_mem _ (sub2 hi)
theorem sub4 {a b c d : Item} {Y : List Item} : Y ⊆ a :: b :: c :: d :: Y := fun i hi => List.mem_cons_of_mem _ (sub3 hi)
theorem sub5 {a b c d e : Item} {Y : List Item} : Y ⊆ a :: b :: c :: d :: e :: Y := fun i hi => List.mem_cons_of_mem _ (sub4 hi)
/-- rows of the call's own lie at the beginning of a block -/
theorem Hp.rowsA {w0 w : World} {L : List Item} (H : Hp w0 w L) (i : Nat) {e : TypeId} {sz : Nat} {A : Option Addr} {n c : Nat} {xs : List Value} (hL : L[i]? = some (.own e sz A n c xs)) (hn : 0 < n) : ∃ gA, A = some ⟨gA, 0, none⟩ := by
  obtain ⟨g, cap, hv, _, _⟩ := World.ownsRow.form (H.holds _ (List.mem_of_getElem? hL)) hn
  injection hv with hA
  exact ⟨g, hA⟩
section
variable {P : Program} {a : Act} {w0 w : World} {Q : Exit → Act → World → Prop} {L : List Item} {ops : Array Oper} {rest : List Oper} {d : Option Tmp} {ty tt : TypeId} {x y : Operand} {ps : String} {af : Array Edge} {gd : Option (Nat × Bool)}
/-- a row of rows of the call's own is read -/
theorem Hp.ldRow {α : Type} {f : α → List Value} {sz : Nat} (hf : ∀ x, (f x).length = sz) (H : Hp w0 w L) (h : Region.wanted { dst := d, op := .load ty x, type := tt, pos := ps, after := af, guard := gd } (yielded ops a.tmps) = true ∧ rowT P ty = true ∧ sizeT P ty = some sz ∧ ∃ b off, a.eval x = .pointer (some ⟨b, off, none⟩) ∧
    ∃ (i : Nat) (e : TypeId) (c : Nat) (l : List α), L[i]? = some (Item.rows e sz f (some ⟨b, 0, none⟩) c l) ∧ ∃ (k : Nat), off = k * sz ∧ ∃ hk : k < l.length, wpList P ops Q rest (a.put d (.agg (f l[k]).toArray)) w) :
    wpList P ops Q ({ dst := d, op := .load ty x, type := tt, pos := ps, after := af, guard := gd } :: rest) a w := by
  obtain ⟨h1, h2, hn, b, off, hx, i, e, c, l, hL, k, rfl, hk, hw⟩ := h
  obtain ⟨b', o', e', hc⟩ := (H.rd hf i hL).at_ hk
  injection e' with e'
  injection e' with e1 e2
  subst e1 e2
  have hr := hc k hk
  rw [Nat.zero_add] at hr
  have := run_loadAt_row (P := P) h2 (by rw [hf]; exact hn) hr
  exact wl_val _ h1 (by simp [execOp, hx, this]) hw
end
/-! what a net does, by contents -/
def pairB (n a b : Int) : Bool := decide (0 ≤ min a b) && (decide (max a b < n) && (a != b))
def ixC (a b : Int) : Nat := (min a b).toNat * 7 + (max a b).toNat
def cutB (n : Int) (cut : List Bool) (a b : Int) : Bool := pairB n a b && cut.getD (ixC a b) false
def nsndR (n : Int) (cut : List Bool) (cs : List MX) (c : MX) : Int := if mayM c.m c.rs c.l n then (if cutB n cut c.m.fr c.m.to then 0 else if 200 ≤ cs.length then 4 else 0) else 2
def nsndL (n : Int) (cut : List Bool) (cs : List MX) (c : MX) : List MX := if mayM c.m c.rs c.l n then (if cutB n cut c.m.fr c.m.to then cs else if 200 ≤ cs.length then cs else cs ++ [c]) else cs
def nputR (cs : List MX) : Int := if 200 ≤ cs.length then 4 else 0
def nputL (cs : List MX) (c : MX) : List MX := if 200 ≤ cs.length then cs else cs ++ [c]
def natE (cs : List MX) : Int := if cs.length = 0 then 280 else 0
def natJ (m : Nat) (k : Int) : Nat := (max k 0).toNat % m
def natI (cs : List MX) (k : Int) : Nat := natJ cs.length k
def ntakL (cs : List MX) (k : Int) : List MX := if cs.length = 0 then cs else cs.eraseIdx (natI cs k)
def ncpyR (cs : List MX) : Int := if cs.length = 0 then 280 else if 200 ≤ cs.length then 4 else 0
def ncpyL (cs : List MX) (k : Int) : List MX := if cs.length = 0 then cs else if 200 ≤ cs.length then cs else cs ++ (cs[natI cs k]?).toList
def ncutR (n a b : Int) : Int := if pairB n a b then 0 else 2
def ncutC (n : Int) (cut : List Bool) (a b : Int) : List Bool := if pairB n a b then cut.set (ixC a b) true else cut
def ncutL (n : Int) (cut : List Bool) (cs : List MX) (a b : Int) : List MX := if pairB n a b then cs.filter (fun c => !cutB n (cut.set (ixC a b) true) c.m.fr c.m.to) else cs
end Go.Proofs.YtiieakndjheknaaDoor
