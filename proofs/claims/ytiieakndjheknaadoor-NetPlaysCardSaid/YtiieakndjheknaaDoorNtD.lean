/-
  THE WALKS OF (*net.Net).Cut's closure, slices.IndexFunc, slices.DeleteFunc.
-/
import Derived.Test.YtiieakndjheknaaDoorNtC
namespace Go.Proofs.YtiieakndjheknaaDoor
set_option maxRecDepth 100000
open Go.RowKit
set_option linter.unusedVariables false
set_option linter.unusedSimpArgs false
abbrev ptI (gb g : Nat) : Item := .blk gb 36 [.pointer (some ⟨g, 0, none⟩)]
section
variable {w0 w : World} {g gb : Nat} {n : Int} {A : Option Addr} {k c : Nat} {cut : List Bool} {L : List Item}
set_option maxHeartbeats 1000000 in
theorem ncl_h (m : Mg) {r : Bool} (H : Hp w0 w (netI g n A k c cut :: ptI gb g :: L)) (hn : crowdB n = true) (h49 : cut.length = 49) (hr : cutB n cut m.fr m.to = r) :
    Calls Tryd.prog 40 #[.agg (mgC m).toArray, .pointer (some ⟨gb, 0, none⟩)] w (RetH w0 (netI g n A k c cut :: ptI gb g :: L) (.bool r)) := by
  go_enter Tryd.func40, Tryd.ntmps40
  go_wp2_with (first | ((with_reducible refine Hp.box H ?_); (first | refine ⟨rfl, mgC m, rfl, ?_⟩); (clear H; intro g2 w1 H); go_frame) | ((with_reducible refine Hp.ld H ?_); refine ⟨rfl, ?_⟩; refine ⟨c_look rfl, ?_⟩; refine ⟨_, _, rfl, ?_⟩; (first | refine ⟨_, _, _, .z, ?_⟩ | refine ⟨_, _, _, .s .z, ?_⟩ | refine ⟨_, _, _, .s (.s .z), ?_⟩ | refine ⟨_, _, _, .s (.s (.s .z)), ?_⟩); refine ⟨_, rfl, ?_⟩; go_frame) | ((with_reducible refine (niscut_h H.rot2 hn h49 hr).mono ?_); rintro _ w1 ⟨rfl, HQ⟩; replace H := HQ.rot2; clear HQ))
  go_ret
  exact ⟨rfl, H.tail⟩
end
def ixR (p : MX → Bool) : List MX → Nat → Int
  | [], _ => -1
  | x :: l, k => if p x then k else ixR p l (k + 1)
theorem ixR_cases (p : MX → Bool) : ∀ (l : List MX) (k0 : Nat), (ixR p l k0 = -1 ∧ ∀ x ∈ l, p x = false) ∨ ∃ k, ∃ h : k < l.length, ixR p l k0 = (k0 + k : Nat) ∧ p l[k] = true ∧ ∀ x ∈ l.take k, p x = false
  | [], k0 => .inl ⟨rfl, fun x h => by cases h⟩
  | x :: l, k0 => by
    cases hp : p x
    · have e : ixR p (x :: l) k0 = ixR p l (k0 + 1) := by show (if p x = true then _ else _) = _; rw [hp]; rfl
      rw [e]
      rcases ixR_cases p l (k0 + 1) with ⟨h1, h2⟩ | ⟨k, hk, h1, h2, h3⟩
      · refine .inl ⟨h1, fun y hy => ?_⟩
        rcases List.mem_cons.1 hy with rfl | hy
        · exact hp
        · exact h2 y hy
      · refine .inr ⟨k + 1, by simpa using hk, by rw [h1]; omega, h2, fun y hy => ?_⟩
        rw [List.take_succ_cons] at hy
        rcases List.mem_cons.1 hy with rfl | hy
        · exact hp
        · exact h3 y hy
    · refine .inr ⟨0, by simp, ?_, hp, fun y hy => by simp at hy⟩
      show (if p x = true then _ else _) = _
      rw [if_pos hp]
      rfl
def IxRel (p : MX → Bool) (fl : List MX) (w0 : World) (L : List Item) (v : Value) (wr : World) : Prop := ∃ k : Nat, v = .int .i64 k ∧ k ≤ fl.length ∧ ixR p fl 0 = ixR p (fl.drop k) k ∧ Hp w0 wr L
section
variable {w0 w : World} {g gb : Nat} {n : Int} {A : Option Addr} {k c cA : Nat} {cut : List Bool} {L : List Item} {fl : List MX} {N : Nat} {A2 : Option Addr}
theorem Hp.rot3' {w0 w : World} {a b c : Item} {L : List Item} (H : Hp w0 w (b :: c :: a :: L)) : Hp w0 w (a :: b :: c :: L) := H.rot3.rot3
set_option maxHeartbeats 2000000 in
theorem nidx_h {r : Int} (H : Hp w0 w (mwI A cA fl :: netI g n A2 N c cut :: ptI gb g :: L)) (hm : fl.length ≤ 200) (hn : crowdB n = true) (h49 : cut.length = 49) (hR : ixR (fun x => cutB n cut x.m.fr x.m.to) fl 0 = r) :
    Calls Tryd.prog 52 #[.slice A fl.length cA, .func (.func 40) #[] #[.pointer (some ⟨gb, 0, none⟩)]] w (RetH w0 (mwI A cA fl :: netI g n A2 N c cut :: ptI gb g :: L) (.int .i64 r)) := by
  obtain ⟨p, hp⟩ : ∃ p : MX → Bool, (fun x => cutB n cut x.m.fr x.m.to) = p := ⟨_, rfl⟩
  rw [hp] at hR
  have hpx : ∀ x, cutB n cut x.m.fr x.m.to = p x := fun x => by rw [← hp]
  have HPX := Lib.hid hpx
  clear hp hpx
  have HR := Lib.hid hR
  clear hR
  go_enter Tryd.func52, Tryd.ntmps52
  go_wp2_with (first | ((with_reducible refine Hp.lda H ?_); refine ⟨rfl, by kernel_rfl, ?_⟩; refine ⟨_, s_look rfl, ?_⟩; refine ⟨_, rfl, ?_⟩; (first | refine ⟨_, _, _, .z, ?_⟩ | refine ⟨_, _, _, .s .z, ?_⟩ | refine ⟨_, _, _, .s (.s .z), ?_⟩ | refine ⟨_, _, _, .s (.s (.s .z)), ?_⟩); refine ⟨rfl, ?_⟩; go_frame) | ((with_reducible refine Hp.lds H ?_); refine ⟨rfl, by kernel_rfl, ?_⟩; refine ⟨_, s_look rfl, ?_⟩; refine ⟨_, _, rfl, ?_⟩; (first | refine ⟨_, _, _, .z, ?_⟩ | refine ⟨_, _, _, .s .z, ?_⟩ | refine ⟨_, _, _, .s (.s .z), ?_⟩ | refine ⟨_, _, _, .s (.s (.s .z)), ?_⟩); (first | refine ⟨[_, _], rfl, rfl, ?_⟩ | refine ⟨[_, _, _, _], rfl, rfl, ?_⟩ | refine ⟨[_, _, _, _, _, _, _], rfl, rfl, ?_⟩ | refine ⟨[_, _, _], rfl, rfl, ?_⟩ | (fail)); go_frame) | (fail))
  have hat : IxRel p fl w0 (mwI A cA fl :: netI g n A2 N c cut :: ptI gb g :: L) (.int .i64 (0 : Nat)) w := ⟨0, rfl, Nat.zero_le _, rfl, H⟩
  clear H
  go_loopw [8] (fun v wr => IxRel p fl w0 (mwI A cA fl :: netI g n A2 N c cut :: ptI gb g :: L) v wr) (fun v _ => fl.length - (intOf v).toNat)
  case atStart => exact hat
  case round =>
    clear hat
    obtain ⟨k, rfl, hk, hix, H⟩ := hrel
    have HIX := Lib.hid hix
    clear hix
    by_cases hlt : k < fl.length
    · have hk1 : IntKind.i64.wrap ((k : Int) + 1) = ((k + 1 : Nat) : Int) := IntWalk.i64_in _ (by omega)
      obtain ⟨gF, rfl⟩ := H.rowsA 0 rfl (by omega)
      have hd : fl.drop k = fl[k] :: fl.drop (k + 1) := List.drop_eq_getElem_cons hlt
      have HD := Lib.hid hd
      clear hd
      cases hr : cutB n cut fl[k].m.fr fl[k].m.to
      · go_wp2_with (first | ((with_reducible refine Hp.lda H ?_); refine ⟨rfl, by kernel_rfl, ?_⟩; refine ⟨_, s_look rfl, ?_⟩; refine ⟨_, rfl, ?_⟩; (first | refine ⟨_, _, _, .z, ?_⟩ | refine ⟨_, _, _, .s .z, ?_⟩ | refine ⟨_, _, _, .s (.s .z), ?_⟩ | refine ⟨_, _, _, .s (.s (.s .z)), ?_⟩); refine ⟨rfl, ?_⟩; go_frame) | ((with_reducible refine Hp.lds H ?_); refine ⟨rfl, by kernel_rfl, ?_⟩; refine ⟨_, s_look rfl, ?_⟩; refine ⟨_, _, rfl, ?_⟩; (first | refine ⟨_, _, _, .z, ?_⟩ | refine ⟨_, _, _, .s .z, ?_⟩ | refine ⟨_, _, _, .s (.s .z), ?_⟩ | refine ⟨_, _, _, .s (.s (.s .z)), ?_⟩); (first | refine ⟨[_, _], rfl, rfl, ?_⟩ | refine ⟨[_, _, _, _], rfl, rfl, ?_⟩ | refine ⟨[_, _, _, _, _, _, _], rfl, rfl, ?_⟩ | refine ⟨[_, _, _], rfl, rfl, ?_⟩ | (fail)); go_frame) | ((with_reducible refine Hp.ldRow (f := mxC) mxC_len H ?_); refine ⟨rfl, by kernel_rfl, s_Msg, _, _, rfl, 0, _, _, _, rfl, k, rfl, hlt, ?_⟩; go_frame) | ((with_reducible refine (ncl_h _ H.rot3 hn h49 hr).mono ?_); rintro _ w1 ⟨rfl, HQ⟩; replace H := HQ.rot3'; clear HQ))
        go_roundw
        case rel =>
          refine ⟨k + 1, rfl, by omega, ?_, H⟩
          rw [HIX.out, HD.out]
          show (if p fl[k] = true then _ else _) = _
          rw [← HPX.out, hr]
          rfl
        case measure => show fl.length - (k + 1) < fl.length - k; omega
      · go_wp2_with (first | ((with_reducible refine Hp.lda H ?_); refine ⟨rfl, by kernel_rfl, ?_⟩; refine ⟨_, s_look rfl, ?_⟩; refine ⟨_, rfl, ?_⟩; (first | refine ⟨_, _, _, .z, ?_⟩ | refine ⟨_, _, _, .s .z, ?_⟩ | refine ⟨_, _, _, .s (.s .z), ?_⟩ | refine ⟨_, _, _, .s (.s (.s .z)), ?_⟩); refine ⟨rfl, ?_⟩; go_frame) | ((with_reducible refine Hp.lds H ?_); refine ⟨rfl, by kernel_rfl, ?_⟩; refine ⟨_, s_look rfl, ?_⟩; refine ⟨_, _, rfl, ?_⟩; (first | refine ⟨_, _, _, .z, ?_⟩ | refine ⟨_, _, _, .s .z, ?_⟩ | refine ⟨_, _, _, .s (.s .z), ?_⟩ | refine ⟨_, _, _, .s (.s (.s .z)), ?_⟩); (first | refine ⟨[_, _], rfl, rfl, ?_⟩ | refine ⟨[_, _, _, _], rfl, rfl, ?_⟩ | refine ⟨[_, _, _, _, _, _, _], rfl, rfl, ?_⟩ | refine ⟨[_, _, _], rfl, rfl, ?_⟩ | (fail)); go_frame) | ((with_reducible refine Hp.ldRow (f := mxC) mxC_len H ?_); refine ⟨rfl, by kernel_rfl, s_Msg, _, _, rfl, 0, _, _, _, rfl, k, rfl, hlt, ?_⟩; go_frame) | ((with_reducible refine (ncl_h _ H.rot3 hn h49 hr).mono ?_); rintro _ w1 ⟨rfl, HQ⟩; replace H := HQ.rot3'; clear HQ))
        go_ret
        refine ⟨?_, H⟩
        rw [← HR.out, HIX.out, HD.out]
        show _ = Ending.returned (.int .i64 (if p fl[k] = true then _ else _))
        rw [← HPX.out, hr]
        rfl
    · obtain rfl : k = fl.length := by omega
      go_wp2_with (first | ((with_reducible refine Hp.lda H ?_); refine ⟨rfl, by kernel_rfl, ?_⟩; refine ⟨_, s_look rfl, ?_⟩; refine ⟨_, rfl, ?_⟩; (first | refine ⟨_, _, _, .z, ?_⟩ | refine ⟨_, _, _, .s .z, ?_⟩ | refine ⟨_, _, _, .s (.s .z), ?_⟩ | refine ⟨_, _, _, .s (.s (.s .z)), ?_⟩); refine ⟨rfl, ?_⟩; go_frame) | ((with_reducible refine Hp.lds H ?_); refine ⟨rfl, by kernel_rfl, ?_⟩; refine ⟨_, s_look rfl, ?_⟩; refine ⟨_, _, rfl, ?_⟩; (first | refine ⟨_, _, _, .z, ?_⟩ | refine ⟨_, _, _, .s .z, ?_⟩ | refine ⟨_, _, _, .s (.s .z), ?_⟩ | refine ⟨_, _, _, .s (.s (.s .z)), ?_⟩); (first | refine ⟨[_, _], rfl, rfl, ?_⟩ | refine ⟨[_, _, _, _], rfl, rfl, ?_⟩ | refine ⟨[_, _, _, _, _, _, _], rfl, rfl, ?_⟩ | refine ⟨[_, _, _], rfl, rfl, ?_⟩ | (fail)); go_frame) | (fail))
      go_ret
      refine ⟨?_, H⟩
      rw [← HR.out, HIX.out, List.drop_length]
      rfl
end
theorem rowsC_set {α : Type} {f : α → List Value} {sz : Nat} (hf : ∀ x, (f x).length = sz) (y : α) : ∀ (l : List α) (k : Nat), k < l.length → (rowsC f l).take (k * sz) ++ f y ++ (rowsC f l).drop (k * sz + (f y).length) = rowsC f (l.set k y)
  | [], k, h => by simp at h
  | x :: l, 0, h => by
    have e : rowsC f (x :: l) = f x ++ rowsC f l := by unfold rowsC; rw [List.map_cons, List.flatten_cons]
    have e2 : rowsC f ((x :: l).set 0 y) = f y ++ rowsC f l := by unfold rowsC; rw [List.set_cons_zero, List.map_cons, List.flatten_cons]
    rw [e, e2, Nat.zero_mul, List.take_zero, List.nil_append, Nat.zero_add, hf y, ← hf x, List.drop_left]
  | x :: l, k + 1, h => by
    have ih := rowsC_set hf y l k (by simpa using h)
    have e : rowsC f (x :: l) = f x ++ rowsC f l := by unfold rowsC; rw [List.map_cons, List.flatten_cons]
    have e2 : rowsC f ((x :: l).set (k + 1) y) = f x ++ rowsC f (l.set k y) := by unfold rowsC; rw [List.set_cons_succ, List.map_cons, List.flatten_cons]
    have h1 : (k + 1) * sz = (f x).length + k * sz := by rw [hf, Nat.add_mul]; omega
    have hT : (f x ++ rowsC f l).take ((k + 1) * sz) = f x ++ (rowsC f l).take (k * sz) := by
      rw [h1, List.take_append, List.take_of_length_le (by omega), Nat.add_sub_cancel_left]
    have hD : (f x ++ rowsC f l).drop ((k + 1) * sz + (f y).length) = (rowsC f l).drop (k * sz + (f y).length) := by
      rw [h1, Nat.add_assoc, List.drop_append, List.drop_of_length_le (by omega), Nat.add_sub_cancel_left, List.nil_append]
    rw [e, e2, hT, hD, ← ih]
    simp only [List.append_assoc]
theorem Hp.setOwn {w0 w : World} {L : List Item} (H : Hp w0 w L) (ix : Nat) {e : TypeId} {sz g n c : Nat} {xs : List Value} (hL : L[ix]? = some (.own e sz (some ⟨g, 0, none⟩) n c xs)) (off : Nat) (vs : List Value) (hl : off + vs.length ≤ n * sz) :
    w.there g off vs.length ∧ Hp w0 (w.setCells g off vs) (L.set ix (.own e sz (some ⟨g, 0, none⟩) n c (xs.take off ++ vs ++ xs.drop (off + vs.length)))) := by
  have hi : ix < L.length := (List.getElem?_eq_some_iff.1 hL).1
  have H1 := H.front ix hL
  have hfr := H1.fresh _ List.mem_cons_self g rfl
  have hh := H1.holds _ List.mem_cons_self
  rcases hh.2 with ⟨hv, _⟩ | ⟨g', cap, cur, hv, hbb, hg, hnc, hcm, hcs, htk⟩
  · cases hv
  injection hv with h1 h2 h3
  injection h1 with h1
  injection h1 with h1
  subst h1 h3
  have hcl : n * sz ≤ c * sz := Nat.mul_le_mul_right _ hnc
  have hcll : cur.toList.length = c * sz := by rw [Array.length_toList, hcs]
  have hB : Blk w g e cur.toList.toArray := hg
  obtain ⟨q1, q2, q3, q4⟩ := setCells_heap_same w g e vs off w cur.toList hB (by rw [hcll]; omega)
  constructor
  · intro j hj
    have hlt : off + j < cur.size := by rw [hcs]; omega
    refine ⟨?_, ?_⟩
    · show (w.cell? ⟨g, off + j, none⟩).isSome = true
      rw [cell_of_row w g (off + j) cur e (0, 0) hg, Array.getElem?_eq_getElem hlt]
      rfl
    · exact frozen_of_row w g (off + j) cur e hg
  · refine Hp.back ix hi (H1.upd (q4 _ _ hfr.1 H.below) (by omega) ?_ ?_ ?_)
    · intro k hk hne
      exact q3 k (fun e => hne (by simp [Item.foot, e]))
    · have hlx : xs.length = n * sz := hh.1
      refine ⟨?_, .inr ⟨g, c, _, rfl, hbb, q1, hnc, hcm, ?_, ?_⟩⟩
      · rw [List.length_append, List.length_append, List.length_take, List.length_drop, hlx]; omega
      · rw [List.size_toArray, List.length_append, List.length_append, List.length_take, List.length_drop, hcll]; omega
      · rw [List.toList_toArray, ← htk]
        have e1 : (cur.toList.take (n * sz)).take off = cur.toList.take off := by rw [List.take_take, Nat.min_eq_left (by omega)]
        have e2 : (cur.toList.take (n * sz)).drop (off + vs.length) = (cur.toList.drop (off + vs.length)).take (n * sz - (off + vs.length)) := by rw [List.drop_take]
        rw [e1, e2, List.take_append, List.take_of_length_le (by rw [List.length_append, List.length_take, hcll]; omega)]
        congr 2
        rw [List.length_append, List.length_take, hcll]
        omega
    · intro k hk
      simp [Item.foot] at hk
      subst hk
      exact ⟨.inl rfl, hfr.1, by omega⟩
section
variable {P : Program} {a : Act} {w0 w : World} {Q : Exit → Act → World → Prop} {L : List Item} {ops : Array Oper} {rest : List Oper} {d : Option Tmp} {ty tt : TypeId} {x y : Operand} {ps : String} {af : Array Edge} {gd : Option (Nat × Bool)}
/-- a row of rows of the call's own is stored -/
theorem Hp.stRow {α : Type} {f : α → List Value} {sz : Nat} (hf : ∀ x, (f x).length = sz) (h1 : ∀ x, ∀ u ∈ f x, u.oneCell' = true) (H : Hp w0 w L) (h : Region.wanted { dst := d, op := .store ty x y, type := tt, pos := ps, after := af, guard := gd } (yielded ops a.tmps) = true ∧ sizeT P ty = some sz ∧ ∃ b off, a.eval x = .pointer (some ⟨b, off, none⟩) ∧ ∃ z : α, a.eval y = .agg (f z).toArray ∧
    ∃ (i : Nat) (e : TypeId) (c : Nat) (l : List α), L[i]? = some (Item.rows e sz f (some ⟨b, 0, none⟩) c l) ∧ ∃ (k : Nat), off = k * sz ∧ k < l.length ∧ ∀ w', Hp w0 w' (L.set i (Item.rows e sz f (some ⟨b, 0, none⟩) c (l.set k z))) → wpList P ops Q rest (a.put d undef) w') :
    wpList P ops Q ({ dst := d, op := .store ty x y, type := tt, pos := ps, after := af, guard := gd } :: rest) a w := by
  obtain ⟨hw, hn, b, off, hx, z, hy, i, e, c, l, hL, k, rfl, hk, hk2⟩ := h
  have hle : k * sz + sz ≤ l.length * sz := by
    have : (k + 1) * sz ≤ l.length * sz := Nat.mul_le_mul_right _ hk
    rw [Nat.add_mul] at this
    omega
  obtain ⟨h3, h4⟩ := H.setOwn i hL (k * sz) (f z) (by rw [hf]; exact hle)
  rw [rowsC_set hf z l k hk] at h4
  have h2 := run_storeAt_mid (P := P) w b (k * sz) ty (f z).toArray (by simpa using h3) (by rw [List.size_toArray, hf]; exact hn) (by
    rw [← Array.all_toList, List.toList_toArray, List.all_eq_true]
    exact h1 z)
  have h5 := hk2 _ (by
    show Hp w0 (w.setCells b (k * sz) (f z)) (L.set i (Item.own e sz (some ⟨b, 0, none⟩) (l.set k z).length c (rowsC f (l.set k z))))
    rw [List.length_set]
    exact h4)
  refine BigFrame.wpList_want hw fun K hK => ?_
  unfold Oper.wp
  simp [execOp, hx, hy, h2]
  exact hK _ _ h5
end
end Go.Proofs.YtiieakndjheknaaDoor
