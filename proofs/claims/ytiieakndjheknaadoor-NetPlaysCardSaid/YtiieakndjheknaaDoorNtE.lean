/-
  THE WALKS OF slices.DeleteFunc, (*net.Net).Cut.
-/
import Derived.Test.YtiieakndjheknaaDoorNtD
namespace Go.Proofs.YtiieakndjheknaaDoor
set_option maxRecDepth 100000
open Go.RowKit
set_option linter.unusedVariables false
set_option linter.unusedSimpArgs false
theorem rows_take {α : Type} {f : α → List Value} {sz : Nat} (hf : ∀ x, (f x).length = sz) : ∀ (l : List α) (i : Nat), i ≤ l.length → (rowsC f l).take (i * sz) = rowsC f (l.take i)
  | [], i, h => by
    have : i = 0 := by simpa using h
    subst this
    simp [rowsC]
  | x :: l, 0, h => by simp [rowsC]
  | x :: l, i + 1, h => by
    have ih := rows_take hf l i (by simpa using h)
    have e : rowsC f (x :: l) = f x ++ rowsC f l := by unfold rowsC; rw [List.map_cons, List.flatten_cons]
    have e2 : rowsC f ((x :: l).take (i + 1)) = f x ++ rowsC f (l.take i) := by unfold rowsC; rw [List.take_succ_cons, List.map_cons, List.flatten_cons]
    rw [e, e2, ← ih, show (i + 1) * sz = (f x).length + i * sz by rw [hf, Nat.add_mul]; omega, List.take_append, List.take_of_length_le (by omega), Nat.add_sub_cancel_left]
/-- the loop's relation: i are kept of the first j -/
def DfRel (q : MX → Bool) (fl : List MX) (gF cA : Nat) (w0 : World) (X1 X2 : Item) (L : List Item) (v5 v6 : Value) (wr : World) : Prop :=
  ∃ (i j : Nat) (arr : List MX) (P : List Item), v5 = .int .i64 i ∧ v6 = .int .i64 j ∧ i < j ∧ j ≤ fl.length ∧ arr.length = fl.length ∧ arr.take i = (fl.take j).filter q ∧ arr.drop j = fl.drop j ∧ Hp w0 wr (mwI (some ⟨gF, 0, none⟩) cA arr :: X1 :: X2 :: (P ++ L))
def RetD (w0 : World) (A : Option Addr) (cA : Nat) (fl : List MX) (X1 X2 : Item) (L : List Item) (e : Ending) (w' : World) : Prop :=
  ∃ P, e = .returned (.slice A fl.length cA) ∧ Hp w0 w' (mwI A cA fl :: X1 :: X2 :: (P ++ L))
theorem df_keep {q : MX → Bool} {fl arr : List MX} {i j : Nat} (hi : i < j) (hj : j < fl.length) (hl : arr.length = fl.length) (h1 : arr.take i = (fl.take j).filter q) (h2 : arr.drop j = fl.drop j) (ha : j < arr.length) (hq : q arr[j] = true) :
    (arr.set i arr[j]).take (i + 1) = (fl.take (j + 1)).filter q ∧ (arr.set i arr[j]).drop (j + 1) = fl.drop (j + 1) := by
  have e : arr[j] = fl[j] := by
    have := congrArg (fun l => l[0]?) h2
    simp only [List.getElem?_drop, Nat.add_zero, List.getElem?_eq_getElem ha, List.getElem?_eq_getElem hj, Option.some.injEq] at this
    exact this
  constructor
  · rw [List.take_succ_eq_append_getElem (by rw [List.length_set]; omega), List.getElem_set_self, List.take_set_of_le (Nat.le_refl i), h1, List.take_succ_eq_append_getElem hj, List.filter_append]
    congr 1
    rw [← e, List.filter_cons, if_pos hq]
    rfl
  · rw [List.drop_set, if_pos (by omega)]
    have := congrArg (List.drop 1) h2
    rwa [List.drop_drop, List.drop_drop] at this
theorem df_lose {q : MX → Bool} {fl arr : List MX} {i j : Nat} (hj : j < fl.length) (h1 : arr.take i = (fl.take j).filter q) (h2 : arr.drop j = fl.drop j) (ha : j < arr.length) (hq : q arr[j] = false) :
    arr.take i = (fl.take (j + 1)).filter q ∧ arr.drop (j + 1) = fl.drop (j + 1) := by
  have e : arr[j] = fl[j] := by
    have := congrArg (fun l => l[0]?) h2
    simp only [List.getElem?_drop, Nat.add_zero, List.getElem?_eq_getElem ha, List.getElem?_eq_getElem hj, Option.some.injEq] at this
    exact this
  constructor
  · rw [h1, List.take_succ_eq_append_getElem hj, List.filter_append, ← e, List.filter_cons, hq]
    simp
  · have := congrArg (List.drop 1) h2
    rwa [List.drop_drop, List.drop_drop] at this
section
variable {w0 w : World} {g gb : Nat} {n : Int} {A : Option Addr} {k c cA : Nat} {cut : List Bool} {L : List Item} {fl : List MX} {N : Nat} {A2 : Option Addr}
theorem Hp.df_in {w0 w : World} {a b x y : Item} {Z : List Item} (H : Hp w0 w (a :: b :: x :: y :: Z)) : Hp w0 w (x :: y :: a :: b :: Z) := H.perm (perm_mid [a, b] [x, y] Z)
theorem Hp.df_out {w0 w : World} {a b x y : Item} {Z : List Item} (H : Hp w0 w (x :: y :: a :: b :: Z)) : Hp w0 w (a :: b :: x :: y :: Z) := H.perm (perm_mid [x, y] [a, b] Z)
set_option maxHeartbeats 4000000 in
theorem ndelf_h (H : Hp w0 w (mwI A cA fl :: netI g n A2 N c cut :: ptI gb g :: L)) (hm : fl.length ≤ 200) (hn : crowdB n = true) (h49 : cut.length = 49) :
    Calls Tryd.prog 39 #[.slice A fl.length cA, .func (.func 40) #[] #[.pointer (some ⟨gb, 0, none⟩)]] w
      (RetD w0 A cA (fl.filter (fun x => !cutB n cut x.m.fr x.m.to)) (netI g n A2 N c cut) (ptI gb g) L) := by
  obtain ⟨r, hr⟩ : ∃ r, ixR (fun x => cutB n cut x.m.fr x.m.to) fl 0 = r := ⟨_, rfl⟩
  have HR := Lib.hid hr
  rcases ixR_cases (fun x => cutB n cut x.m.fr x.m.to) fl 0 with ⟨h1, h2⟩ | ⟨k, hk, h1, h2, h3⟩
  · rw [h1] at hr
    subst hr
    have e : fl.filter (fun x => !cutB n cut x.m.fr x.m.to) = fl := by
      rw [List.filter_eq_self]
      intro x hx
      have := h2 x hx
      show (!cutB n cut x.m.fr x.m.to) = true
      rw [this]
      rfl
    rw [e]
    clear e h1 h2
    go_enter Tryd.func39, Tryd.ntmps39
    go_wp2_with (first | ((with_reducible refine Hp.allo (ty := 34) H ?_); refine ⟨rfl, ?_⟩; refine ⟨_, z_look rfl, ?_⟩; (clear H; intro g7 w1 H); go_frame) | ((with_reducible refine Hp.lda H ?_); refine ⟨rfl, by kernel_rfl, ?_⟩; refine ⟨_, s_look rfl, ?_⟩; refine ⟨_, rfl, ?_⟩; (first | refine ⟨_, _, _, .z, ?_⟩ | refine ⟨_, _, _, .s .z, ?_⟩ | refine ⟨_, _, _, .s (.s .z), ?_⟩ | refine ⟨_, _, _, .s (.s (.s .z)), ?_⟩); refine ⟨rfl, ?_⟩; go_frame) | ((with_reducible refine Hp.lds H ?_); refine ⟨rfl, by kernel_rfl, ?_⟩; refine ⟨_, s_look rfl, ?_⟩; refine ⟨_, _, rfl, ?_⟩; (first | refine ⟨_, _, _, .z, ?_⟩ | refine ⟨_, _, _, .s .z, ?_⟩ | refine ⟨_, _, _, .s (.s .z), ?_⟩ | refine ⟨_, _, _, .s (.s (.s .z)), ?_⟩); (first | refine ⟨[_, _], rfl, rfl, ?_⟩ | refine ⟨[_, _, _, _], rfl, rfl, ?_⟩ | refine ⟨[_, _, _, _, _, _, _], rfl, rfl, ?_⟩ | refine ⟨[_, _, _], rfl, rfl, ?_⟩ | (fail)); go_frame) | ((with_reducible refine Hp.sta H ?_); refine ⟨rfl, ?_⟩; refine ⟨_, s_look rfl, ?_⟩; refine ⟨_, rfl, _, rfl, rfl, ?_⟩; (first | refine ⟨_, _, _, .z, ?_⟩ | refine ⟨_, _, _, .s .z, ?_⟩ | refine ⟨_, _, _, .s (.s .z), ?_⟩ | refine ⟨_, _, _, .s (.s (.s .z)), ?_⟩); refine ⟨rfl, rfl, ?_⟩; (clear H; intro w1 H; simp only [List.set] at H); go_frame) | ((with_reducible refine Hp.stRow (f := mxC) mxC_len mxC_one H ?_); refine ⟨rfl, s_Msg, _, _, rfl, arr[j], rfl, 1, _, _, _, rfl, i, rfl, hia, ?_⟩; (clear H; intro w1 H; simp only [List.set_cons_succ, List.set_cons_zero] at H); go_frame) | ((with_reducible refine (nidx_h H hm hn h49 HR.out).mono ?_); rintro _ w1 ⟨rfl, HQ⟩; replace H := HQ; clear HQ))
    go_ret
    exact ⟨[], rfl, H⟩
  · rw [h1, Nat.zero_add] at hr
    subst hr
    obtain ⟨gF, rfl⟩ := H.rowsA 0 rfl (by omega)
    have hcap := own_caps (H.holds _ List.mem_cons_self)
    obtain ⟨q, hq⟩ : ∃ q : MX → Bool, (fun x => !cutB n cut x.m.fr x.m.to) = q := ⟨_, rfl⟩
    rw [hq]
    have hqx : ∀ x : MX, (!cutB n cut x.m.fr x.m.to) = q x := fun x => by rw [← hq]
    have HQX := Lib.hid hqx
    have ht : fl.take k = (fl.take (k + 1)).filter q := by
      rw [List.take_succ_eq_append_getElem hk, List.filter_append]
      have e1 : (fl.take k).filter q = fl.take k := by
        rw [List.filter_eq_self]
        intro x hx
        rw [← hqx, h3 x hx]
        rfl
      have e2 : [fl[k]].filter q = [] := by
        rw [List.filter_cons, ← hqx, h2]
        rfl
      rw [e1, e2, List.append_nil]
    clear hq hqx h1 h2 h3
    have hk1 : IntKind.i64.wrap ((k : Int) + 1) = ((k + 1 : Nat) : Int) := IntWalk.i64_in _ (by omega)
    have hkm : ((k : Int) == -1) = false := beq_eq_false_iff_ne.2 (by omega)
    have HT := Lib.hid ht
    clear ht
    go_enter Tryd.func39, Tryd.ntmps39
    go_wp2_with (first | ((with_reducible refine Hp.allo (ty := 34) H ?_); refine ⟨rfl, ?_⟩; refine ⟨_, z_look rfl, ?_⟩; (clear H; intro g7 w1 H); go_frame) | ((with_reducible refine Hp.lda H ?_); refine ⟨rfl, by kernel_rfl, ?_⟩; refine ⟨_, s_look rfl, ?_⟩; refine ⟨_, rfl, ?_⟩; (first | refine ⟨_, _, _, .z, ?_⟩ | refine ⟨_, _, _, .s .z, ?_⟩ | refine ⟨_, _, _, .s (.s .z), ?_⟩ | refine ⟨_, _, _, .s (.s (.s .z)), ?_⟩); refine ⟨rfl, ?_⟩; go_frame) | ((with_reducible refine Hp.lds H ?_); refine ⟨rfl, by kernel_rfl, ?_⟩; refine ⟨_, s_look rfl, ?_⟩; refine ⟨_, _, rfl, ?_⟩; (first | refine ⟨_, _, _, .z, ?_⟩ | refine ⟨_, _, _, .s .z, ?_⟩ | refine ⟨_, _, _, .s (.s .z), ?_⟩ | refine ⟨_, _, _, .s (.s (.s .z)), ?_⟩); (first | refine ⟨[_, _], rfl, rfl, ?_⟩ | refine ⟨[_, _, _, _], rfl, rfl, ?_⟩ | refine ⟨[_, _, _, _, _, _, _], rfl, rfl, ?_⟩ | refine ⟨[_, _, _], rfl, rfl, ?_⟩ | (fail)); go_frame) | ((with_reducible refine Hp.sta H ?_); refine ⟨rfl, ?_⟩; refine ⟨_, s_look rfl, ?_⟩; refine ⟨_, rfl, _, rfl, rfl, ?_⟩; (first | refine ⟨_, _, _, .z, ?_⟩ | refine ⟨_, _, _, .s .z, ?_⟩ | refine ⟨_, _, _, .s (.s .z), ?_⟩ | refine ⟨_, _, _, .s (.s (.s .z)), ?_⟩); refine ⟨rfl, rfl, ?_⟩; (clear H; intro w1 H; simp only [List.set] at H); go_frame) | ((with_reducible refine Hp.stRow (f := mxC) mxC_len mxC_one H ?_); refine ⟨rfl, s_Msg, _, _, rfl, arr[j], rfl, 1, _, _, _, rfl, i, rfl, hia, ?_⟩; (clear H; intro w1 H; simp only [List.set_cons_succ, List.set_cons_zero] at H); go_frame) | ((with_reducible refine (nidx_h H hm hn h49 HR.out).mono ?_); rintro _ w1 ⟨rfl, HQ⟩; replace H := HQ; clear HQ))
    have hat : DfRel q fl gF cA w0 (netI g n A2 N c cut) (ptI gb g) L (.int .i64 (k : Nat)) (.int .i64 (k + 1 : Nat)) w1 :=
      ⟨k, k + 1, fl, [], rfl, rfl, Nat.lt_succ_self _, hk, rfl, HT.out, rfl, H⟩
    clear H HT HR hk1 hkm hk
    go_loopw [5, 6] (fun v5 v6 wr => DfRel q fl gF cA w0 (netI g n A2 N c cut) (ptI gb g) L v5 v6 wr) (fun _ v6 _ => fl.length - (intOf v6).toNat)
    case atStart => exact hat
    case round =>
      clear hat
      obtain ⟨i, j, arr, P, rfl, rfl, hij, hj, hal, hq1, hq2, H⟩ := hrel
      by_cases hlt : j < fl.length
      · have hja : j < arr.length := by omega
        have hia : i < arr.length := by omega
        have hjN : (j : Int) < (fl.length : Int) := by omega
        have hj1 : IntKind.i64.wrap ((j : Int) + 1) = ((j + 1 : Nat) : Int) := IntWalk.i64_in _ (by omega)
        have hi1 : IntKind.i64.wrap ((i : Int) + 1) = ((i + 1 : Nat) : Int) := IntWalk.i64_in _ (by omega)
        have hiN : i < fl.length := by omega
        have HK := fun (h : q arr[j] = true) => df_keep hij hlt hal hq1 hq2 hja h
        have HLO := fun (h : q arr[j] = false) => df_lose hlt hq1 hq2 hja h
        have HK2 := Lib.hid HK
        have HLO2 := Lib.hid HLO
        have HAL := Lib.hid hal
        clear HK HLO hq1 hq2 hal
        cases hr : cutB n cut arr[j].m.fr arr[j].m.to
        · have hqj : q arr[j] = true := by rw [← HQX.out, hr]; rfl
          go_wp2_with (first | ((with_reducible refine Hp.allo (ty := 34) H ?_); refine ⟨rfl, ?_⟩; refine ⟨_, z_look rfl, ?_⟩; (clear H; intro g7 w1 H); go_frame) | ((with_reducible refine Hp.lda H ?_); refine ⟨rfl, by kernel_rfl, ?_⟩; refine ⟨_, s_look rfl, ?_⟩; refine ⟨_, rfl, ?_⟩; (first | refine ⟨_, _, _, .z, ?_⟩ | refine ⟨_, _, _, .s .z, ?_⟩ | refine ⟨_, _, _, .s (.s .z), ?_⟩ | refine ⟨_, _, _, .s (.s (.s .z)), ?_⟩); refine ⟨rfl, ?_⟩; go_frame) | ((with_reducible refine Hp.lds H ?_); refine ⟨rfl, by kernel_rfl, ?_⟩; refine ⟨_, s_look rfl, ?_⟩; refine ⟨_, _, rfl, ?_⟩; (first | refine ⟨_, _, _, .z, ?_⟩ | refine ⟨_, _, _, .s .z, ?_⟩ | refine ⟨_, _, _, .s (.s .z), ?_⟩ | refine ⟨_, _, _, .s (.s (.s .z)), ?_⟩); (first | refine ⟨[_, _], rfl, rfl, ?_⟩ | refine ⟨[_, _, _, _], rfl, rfl, ?_⟩ | refine ⟨[_, _, _, _, _, _, _], rfl, rfl, ?_⟩ | refine ⟨[_, _, _], rfl, rfl, ?_⟩ | (fail)); go_frame) | ((with_reducible refine Hp.sta H ?_); refine ⟨rfl, ?_⟩; refine ⟨_, s_look rfl, ?_⟩; refine ⟨_, rfl, _, rfl, rfl, ?_⟩; (first | refine ⟨_, _, _, .z, ?_⟩ | refine ⟨_, _, _, .s .z, ?_⟩ | refine ⟨_, _, _, .s (.s .z), ?_⟩ | refine ⟨_, _, _, .s (.s (.s .z)), ?_⟩); refine ⟨rfl, rfl, ?_⟩; (clear H; intro w1 H; simp only [List.set] at H); go_frame) | ((with_reducible refine Hp.stRow (f := mxC) mxC_len mxC_one H ?_); refine ⟨rfl, s_Msg, _, _, rfl, arr[j], rfl, 1, _, _, _, rfl, i, rfl, hia, ?_⟩; (clear H; intro w1 H; simp only [List.set_cons_succ, List.set_cons_zero] at H); go_frame) | ((with_reducible refine Hp.ldRow (f := mxC) mxC_len H ?_); refine ⟨rfl, by kernel_rfl, s_Msg, _, _, rfl, 0, _, _, _, rfl, j, rfl, hja, ?_⟩; go_frame) | ((with_reducible refine (ncl_h _ H.df_in hn h49 hr).mono ?_); rintro _ w1 ⟨rfl, HQ⟩; replace H := HQ.df_out; clear HQ) | ((with_reducible refine Hp.stRow (f := mxC) mxC_len mxC_one H ?_); refine ⟨rfl, s_Msg, _, _, rfl, arr[j], rfl, 1, _, _, _, rfl, i, rfl, hia, ?_⟩; (clear H; intro w1 H; simp only [List.set_cons_succ, List.set_cons_zero] at H); go_frame))
          obtain ⟨h3, h4⟩ := HK2.out hqj
          go_roundw
          case rel => exact ⟨i + 1, j + 1, arr.set i arr[j], _ :: P, rfl, rfl, by omega, hlt, by rw [List.length_set]; exact HAL.out, h3, h4, H.mid3 [_]⟩
          case measure => show fl.length - (j + 1) < fl.length - j; omega
        · have hqj : q arr[j] = false := by rw [← HQX.out, hr]; rfl
          go_wp2_with (first | ((with_reducible refine Hp.allo (ty := 34) H ?_); refine ⟨rfl, ?_⟩; refine ⟨_, z_look rfl, ?_⟩; (clear H; intro g7 w1 H); go_frame) | ((with_reducible refine Hp.lda H ?_); refine ⟨rfl, by kernel_rfl, ?_⟩; refine ⟨_, s_look rfl, ?_⟩; refine ⟨_, rfl, ?_⟩; (first | refine ⟨_, _, _, .z, ?_⟩ | refine ⟨_, _, _, .s .z, ?_⟩ | refine ⟨_, _, _, .s (.s .z), ?_⟩ | refine ⟨_, _, _, .s (.s (.s .z)), ?_⟩); refine ⟨rfl, ?_⟩; go_frame) | ((with_reducible refine Hp.lds H ?_); refine ⟨rfl, by kernel_rfl, ?_⟩; refine ⟨_, s_look rfl, ?_⟩; refine ⟨_, _, rfl, ?_⟩; (first | refine ⟨_, _, _, .z, ?_⟩ | refine ⟨_, _, _, .s .z, ?_⟩ | refine ⟨_, _, _, .s (.s .z), ?_⟩ | refine ⟨_, _, _, .s (.s (.s .z)), ?_⟩); (first | refine ⟨[_, _], rfl, rfl, ?_⟩ | refine ⟨[_, _, _, _], rfl, rfl, ?_⟩ | refine ⟨[_, _, _, _, _, _, _], rfl, rfl, ?_⟩ | refine ⟨[_, _, _], rfl, rfl, ?_⟩ | (fail)); go_frame) | ((with_reducible refine Hp.sta H ?_); refine ⟨rfl, ?_⟩; refine ⟨_, s_look rfl, ?_⟩; refine ⟨_, rfl, _, rfl, rfl, ?_⟩; (first | refine ⟨_, _, _, .z, ?_⟩ | refine ⟨_, _, _, .s .z, ?_⟩ | refine ⟨_, _, _, .s (.s .z), ?_⟩ | refine ⟨_, _, _, .s (.s (.s .z)), ?_⟩); refine ⟨rfl, rfl, ?_⟩; (clear H; intro w1 H; simp only [List.set] at H); go_frame) | ((with_reducible refine Hp.stRow (f := mxC) mxC_len mxC_one H ?_); refine ⟨rfl, s_Msg, _, _, rfl, arr[j], rfl, 1, _, _, _, rfl, i, rfl, hia, ?_⟩; (clear H; intro w1 H; simp only [List.set_cons_succ, List.set_cons_zero] at H); go_frame) | ((with_reducible refine Hp.ldRow (f := mxC) mxC_len H ?_); refine ⟨rfl, by kernel_rfl, s_Msg, _, _, rfl, 0, _, _, _, rfl, j, rfl, hja, ?_⟩; go_frame) | ((with_reducible refine (ncl_h _ H.df_in hn h49 hr).mono ?_); rintro _ w1 ⟨rfl, HQ⟩; replace H := HQ.df_out; clear HQ) | ((with_reducible refine Hp.stRow (f := mxC) mxC_len mxC_one H ?_); refine ⟨rfl, s_Msg, _, _, rfl, arr[j], rfl, 1, _, _, _, rfl, i, rfl, hia, ?_⟩; (clear H; intro w1 H; simp only [List.set_cons_succ, List.set_cons_zero] at H); go_frame))
          obtain ⟨h3, h4⟩ := HLO2.out hqj
          go_roundw
          case rel => exact ⟨i, j + 1, arr, _ :: P, rfl, rfl, by omega, hlt, HAL.out, h3, h4, H.mid3 [_]⟩
          case measure => show fl.length - (j + 1) < fl.length - j; omega
      · obtain rfl : j = fl.length := by omega
        have hfin : arr.take i = fl.filter q := by rw [hq1, List.take_length]
        have hil : i = (fl.filter q).length := by rw [← hfin, List.length_take]; omega
        have H2 := H.less 0 rfl i (by omega)
        rw [rows_take mxC_len arr i (by omega), hfin] at H2
        replace H2 : Hp w0 wr (.own 34 27 (some ⟨gF, 0, none⟩) i cA (rowsC mxC (fl.filter q)) :: netI g n A2 N c cut :: ptI gb g :: (P ++ L)) := H2
        obtain ⟨w3, hr3, H3⟩ := H2.clrRun ms_u ms_info rfl (by decide) ms_z 0 0 rfl (fl.length - i) (cA - i) (by omega) ⟨gF, i * 27, none⟩ (fun _ => rfl)
        rw [hil] at H3
        have HF : Hid (RetD w0 (some ⟨gF, 0, none⟩) cA (fl.filter q) (netI g n A2 N c cut) (ptI gb g) L (.returned (.slice (some ⟨gF, 0, none⟩) i cA)) w3) := Lib.hid ⟨P, by rw [← hil], H3⟩
        have hci : ¬ cA = i := by omega
        have hc0 : ¬ cA = 0 := by omega
        have hiN : (i : Int) ≤ (fl.length : Int) := by omega
        have hiC : (i : Int) ≤ (cA : Int) := by omega
        have hjj : decide ((fl.length : Int) < (fl.length : Int)) = false := decide_eq_false (by omega)
        clear H H2 H3 hfin hil hq1 hq2 hal
        go_wp2_with (first | ((with_reducible refine Hp.allo (ty := 34) H ?_); refine ⟨rfl, ?_⟩; refine ⟨_, z_look rfl, ?_⟩; (clear H; intro g7 w1 H); go_frame) | ((with_reducible refine Hp.lda H ?_); refine ⟨rfl, by kernel_rfl, ?_⟩; refine ⟨_, s_look rfl, ?_⟩; refine ⟨_, rfl, ?_⟩; (first | refine ⟨_, _, _, .z, ?_⟩ | refine ⟨_, _, _, .s .z, ?_⟩ | refine ⟨_, _, _, .s (.s .z), ?_⟩ | refine ⟨_, _, _, .s (.s (.s .z)), ?_⟩); refine ⟨rfl, ?_⟩; go_frame) | ((with_reducible refine Hp.lds H ?_); refine ⟨rfl, by kernel_rfl, ?_⟩; refine ⟨_, s_look rfl, ?_⟩; refine ⟨_, _, rfl, ?_⟩; (first | refine ⟨_, _, _, .z, ?_⟩ | refine ⟨_, _, _, .s .z, ?_⟩ | refine ⟨_, _, _, .s (.s .z), ?_⟩ | refine ⟨_, _, _, .s (.s (.s .z)), ?_⟩); (first | refine ⟨[_, _], rfl, rfl, ?_⟩ | refine ⟨[_, _, _, _], rfl, rfl, ?_⟩ | refine ⟨[_, _, _, _, _, _, _], rfl, rfl, ?_⟩ | refine ⟨[_, _, _], rfl, rfl, ?_⟩ | (fail)); go_frame) | ((with_reducible refine Hp.sta H ?_); refine ⟨rfl, ?_⟩; refine ⟨_, s_look rfl, ?_⟩; refine ⟨_, rfl, _, rfl, rfl, ?_⟩; (first | refine ⟨_, _, _, .z, ?_⟩ | refine ⟨_, _, _, .s .z, ?_⟩ | refine ⟨_, _, _, .s (.s .z), ?_⟩ | refine ⟨_, _, _, .s (.s (.s .z)), ?_⟩); refine ⟨rfl, rfl, ?_⟩; (clear H; intro w1 H; simp only [List.set] at H); go_frame) | ((with_reducible refine Hp.stRow (f := mxC) mxC_len mxC_one H ?_); refine ⟨rfl, s_Msg, _, _, rfl, arr[j], rfl, 1, _, _, _, rfl, i, rfl, hia, ?_⟩; (clear H; intro w1 H; simp only [List.set_cons_succ, List.set_cons_zero] at H); go_frame) | (fail))
        go_ret
        exact HF.out
end
theorem ex_fn1 {P : Program} {a : Act} {oi : Oper} {w : World} {fn : Fn} {x : Operand} {g : Nat} (ho : oi.op = .makeFunc fn #[] #[x]) (hx : a.eval x = .pointer (some ⟨g, 0, none⟩)) : (execOp a.eval oi).run P w = .ok (.value (.func fn #[] #[.pointer (some ⟨g, 0, none⟩)])) w := by
  simp [execOp, ho, hx, Instr.makeFunc]
theorem cf_df (args : Array Value) (w : World) : (callFunc 39 args).run Tryd.prog w = .ok (.enter 39 args) w := by kernel_rfl
theorem ncut_set (n : Int) (A : Option Addr) (k c : Nat) (cut : List Bool) (i j : Nat) : (netC n A k c cut).set (2 + i * 7 + j) (.bool true) = netC n A k c (cut.set (i * 7 + j) true) := by
  unfold netC
  rw [show 2 + i * 7 + j = (i * 7 + j) + 1 + 1 by omega, List.set_cons_succ, List.set_cons_succ, List.map_set]
theorem Hp.df_mid {w0 w : World} {x y z : Item} {P Y : List Item} (H : Hp w0 w (x :: y :: z :: (P ++ Y))) : Hp w0 w ((x :: y :: P) ++ (z :: Y)) :=
  H.perm ((List.perm_middle (a := z) (l₁ := P) (l₂ := Y)).symm.cons y |>.cons x)
theorem ncut_fin {w0 w1 : World} {g gb : Nat} {n a b : Int} {A : Option Addr} {c i j : Nat} {cut : List Bool} {cs fl : List MX} {F Z P : List Item} (hp : pairB n a b = true) (hx : ixC a b = i * 7 + j) (hcs : fl.map cx = cs) (hZ : Held Z fl) (h200 : cs.length ≤ 200) (h49 : cut.length = 49)
    (H : Hp w0 w1 (mwI A c (fl.filter (fun x => !cutB n (cut.set (i * 7 + j) true) x.m.fr x.m.to)) :: netI g n A (fl.filter (fun x => !cutB n (cut.set (i * 7 + j) true) x.m.fr x.m.to)).length c (cut.set (i * 7 + j) true) :: (P ++ (ptI gb g :: (F ++ Z))))) :
    RetN w0 g n (ncutC n cut a b) (ncutL n cut cs a b) F Z (.int .i64 (ncutR n a b)) (.returned (.int .i64 0)) w1 := by
  unfold ncutC ncutL ncutR
  rw [if_pos hp, if_pos hp, if_pos hp, hx]
  refine ⟨rfl, [] ++ ((P ++ [ptI gb g]) ++ Z), fun i hi => List.mem_append_right _ (List.mem_append_right _ hi), A, c, fl.filter (fun x => !cutB n (cut.set (i * 7 + j) true) x.m.fr x.m.to), ?_, (hZ.sub (fun x h => (List.mem_filter.1 h).1)).mono (fun i hi => List.mem_append_right _ (List.mem_append_right _ hi)), ?_, ?_, Hp.midd [] (P ++ [ptI gb g]) ?_⟩
  · rw [← hcs, List.filter_map]
    rfl
  · exact Nat.le_trans (List.length_filter_le _ _) h200
  · rw [List.length_set]; exact h49
  · rw [List.nil_append, List.append_assoc]
    exact H.rot2
set_option maxHeartbeats 4000000 in
theorem ncut_o {w0 w : World} {g : Nat} {n : Int} {cut : List Bool} {cs : List MX} {F Z : List Item} (HN : NetZ w0 w g n cut cs F Z) (hn : crowdB n = true) (a b : Int) :
    Calls Tryd.prog 14 #[.pointer (some ⟨g, 0, none⟩), .int .i64 a, .int .i64 b] w (RetN w0 g n (ncutC n cut a b) (ncutL n cut cs a b) F Z (.int .i64 (ncutR n a b))) := by
  obtain ⟨A, c, fl, hcs, hZ, h200, h49, H⟩ := HN
  have hn0 := crowd_nz hn
  cases hp : pairB n a b
  · have e1 : ncutC n cut a b = cut := by unfold ncutC; rw [hp]; rfl
    have e2 : ncutL n cut cs a b = cs := by unfold ncutL; rw [hp]; rfl
    have e3 : ncutR n a b = 2 := by unfold ncutR; rw [hp]; rfl
    rw [e1, e2, e3]
    clear e1 e2 e3
    go_enter Tryd.func14, Tryd.ntmps14
    go_wp2_with (first | ((with_reducible refine Hp.box H ?_); (first | refine ⟨rfl, [.pointer (some ⟨g, 0, none⟩)], rfl, ?_⟩); (clear H; intro gb w1 H); go_frame) | ((with_reducible refine Hp.ld H ?_); refine ⟨rfl, ?_⟩; refine ⟨c_look rfl, ?_⟩; refine ⟨_, _, rfl, ?_⟩; (first | refine ⟨_, _, _, .z, ?_⟩ | refine ⟨_, _, _, .s .z, ?_⟩ | refine ⟨_, _, _, .s (.s .z), ?_⟩ | refine ⟨_, _, _, .s (.s (.s .z)), ?_⟩); refine ⟨_, rfl, ?_⟩; go_frame) | (fail) | ((with_reducible refine (nnone_h H.rot2 hn0).mono ?_); rintro _ w1 ⟨rfl, HQ⟩; replace H := HQ.rot2; clear HQ) | ((with_reducible refine (npair_h H.rot2 hn0 hp).mono ?_); rintro _ w1 ⟨rfl, HQ⟩; replace H := HQ.rot2; clear HQ))
    go_ret
    exact ⟨rfl, Z, fun _ h => h, A, c, fl, hcs, hZ, h200, h49, H.tail⟩
  · have hn7 : n ≤ 7 := by
      have hn' := hn
      simp only [crowdB, Bool.or_eq_true, beq_iff_eq] at hn'
      omega
    have hp2 := hp
    simp only [pairB, Bool.and_eq_true, decide_eq_true_eq] at hp2
    obtain ⟨q1, q2, q3⟩ := hp2
    obtain ⟨i, hi⟩ : ∃ i : Nat, min a b = i := ⟨(min a b).toNat, by omega⟩
    obtain ⟨j, hj⟩ : ∃ i : Nat, max a b = i := ⟨(max a b).toNat, by omega⟩
    have hi7 : i < 7 := by omega
    have hj7 : j < 7 := by omega
    have hcell := ncut_cell (n := n) (A := A) (k := fl.length) (c := c) h49 hi7 hj7
    have e : ixC a b = i * 7 + j := by unfold ixC; rw [hi, hj]; rfl
    have HE := Lib.hid e
    have hm2 : fl.length ≤ 200 := by rw [← hcs, List.length_map] at h200; exact h200
    have h49' : (cut.set (i * 7 + j) true).length = 49 := by rw [List.length_set]; exact h49
    clear e q1 q2 q3 hn7
    go_enter Tryd.func14, Tryd.ntmps14
    go_wp2_with (first | ((with_reducible refine Hp.box H ?_); (first | refine ⟨rfl, [.pointer (some ⟨g, 0, none⟩)], rfl, ?_⟩); (clear H; intro gb w1 H); go_frame) | ((with_reducible refine Hp.ld H ?_); refine ⟨rfl, ?_⟩; refine ⟨c_look rfl, ?_⟩; refine ⟨_, _, rfl, ?_⟩; (first | refine ⟨_, _, _, .z, ?_⟩ | refine ⟨_, _, _, .s .z, ?_⟩ | refine ⟨_, _, _, .s (.s .z), ?_⟩ | refine ⟨_, _, _, .s (.s (.s .z)), ?_⟩); refine ⟨_, rfl, ?_⟩; go_frame) | (fail) | ((with_reducible refine (nnone_h H.rot2 hn0).mono ?_); rintro _ w1 ⟨rfl, HQ⟩; replace H := HQ.rot2; clear HQ) | ((with_reducible refine (npair_h H.rot2 hn0 hp).mono ?_); rintro _ w1 ⟨rfl, HQ⟩; replace H := HQ.rot2; clear HQ) | ((with_reducible refine Hp.stv H ?_); refine ⟨rfl, c_look rfl, .bool true, rfl, rfl, _, _, rfl, _, _, _, .s .z, ⟨_, hcell⟩, ?_⟩; (clear H; intro w1 H; simp only [List.set_cons_succ, List.set_cons_zero] at H); go_frame))
    rw [ncut_set] at H
    replace H := H.rot3
    refine hw_start [_, _] (_ :: (F ++ Z)) H (by kernel_rfl) (fun w1 H => ?_)
    simp only [List.cons_append, List.nil_append] at H
    have hS : HpW _ _ w1 := ⟨[_, _], H⟩
    (refine hw_take hS 0 (by decide +kernel) (by decide +kernel) (by decide +kernel) ⟨_, rfl, rfl, _, fun w h => ex_load rfl rfl (hw_ld (by kernel_rfl) .z rfl w h), fun _ _ _ h => h, ?_⟩; go_frame)
    (refine hw_take hS 1 (by decide +kernel) (by decide +kernel) (by decide +kernel) ⟨_, rfl, rfl, _, fun w h => ex_load rfl rfl (hw_ld (by kernel_rfl) .z rfl w h), fun _ _ _ h => h, ?_⟩; go_frame)
    (refine hw_take hS 2 (by decide +kernel) (by decide +kernel) (by decide +kernel) ⟨_, rfl, rfl, ?_, ?_, fun _ _ _ h => h, ?_⟩; rotate_left; (intro w _; go_simp; try with_reducible rfl); go_frame)
    (refine hw_take hS 3 (by decide +kernel) (by decide +kernel) (by decide +kernel) ⟨_, rfl, rfl, ?_, ?_, fun _ _ _ h => h, ?_⟩; rotate_left; (intro w _; go_simp; try with_reducible rfl); go_frame)
    (refine hw_take hS 5 (by decide +kernel) (by decide +kernel) (by decide +kernel) ⟨_, rfl, rfl, _, fun w _ => ex_fn1 rfl rfl, fun _ _ _ h => h, ?_⟩; go_frame)
    clear hS
    (refine hw_one 4 (by decide +kernel) ⟨_, rfl, rfl, fun K hK => ?_⟩)
    (refine hw_value (v := .slice A fl.length c) (ex_load rfl rfl (run_loadAt_cell (oneT_c (by kernel_rfl)) (H.c 0 rfl 1 rfl))) ?_; refine hK _ _ ⟨[_, _], H⟩ ?_; clear hK K; go_frame; have hS : HpW _ _ _ := ⟨[_, _], H⟩)
    clear hS
    (refine hw_one 6 (by decide +kernel) ⟨_, rfl, rfl, fun K hK => ?_⟩)
    (refine hw_callk (vs := [.slice A fl.length c, .func (.func 40) #[] #[.pointer (some ⟨gb, 0, none⟩)]]) (ndelf_h H.rot2 hm2 hn h49') cf_df rfl rfl rfl (fun e w1 hp => ?_); obtain ⟨P, rfl, HQ⟩ := hp; replace H := HQ.df_mid; clear HQ; refine ⟨_, rfl, ?_⟩; refine hK _ _ ⟨(_ :: _ :: P), H⟩ ?_; clear hK K; go_frame; have hS : HpW _ _ _ := ⟨(_ :: _ :: P), H⟩)
    (refine hw_take hS 7 (by decide +kernel) (by decide +kernel) (by decide +kernel) ⟨_, rfl, rfl, ?_, ?_, fun _ _ _ h => h, ?_⟩; rotate_left; (intro w _; go_simp; try with_reducible rfl); go_frame)
    (refine hw_take hS 8 (by decide +kernel) (by decide +kernel) (by decide +kernel) ⟨_, rfl, rfl, ?_, ?_, fun _ _ _ h => h, ?_⟩; rotate_left; (intro w _; go_simp; try with_reducible rfl); go_frame)
    clear hS
    (refine hw_one 9 (by decide +kernel) ⟨_, rfl, rfl, fun K hK => ?_⟩)
    refine hw_sto (v := .slice A (fl.filter (fun x => !cutB n (cut.set (i * 7 + j) true) x.m.fr x.m.to)).length c) (by kernel_rfl) rfl rfl rfl H (.s .z) (by simp [netC]) rfl (fun w1 H => ?_)
    (try simp only [List.set_cons_succ, List.set_cons_zero, List.cons_append] at H)
    refine hK _ _ ⟨_ :: _ :: P, H⟩ ?_
    clear hK K
    go_frame
    refine wpAnyH_done (by kernel_rfl) ?_ _
    go_wp2_with (first | ((with_reducible refine Hp.box H ?_); (first | refine ⟨rfl, [.pointer (some ⟨g, 0, none⟩)], rfl, ?_⟩); (clear H; intro gb w1 H); go_frame) | ((with_reducible refine Hp.ld H ?_); refine ⟨rfl, ?_⟩; refine ⟨c_look rfl, ?_⟩; refine ⟨_, _, rfl, ?_⟩; (first | refine ⟨_, _, _, .z, ?_⟩ | refine ⟨_, _, _, .s .z, ?_⟩ | refine ⟨_, _, _, .s (.s .z), ?_⟩ | refine ⟨_, _, _, .s (.s (.s .z)), ?_⟩); refine ⟨_, rfl, ?_⟩; go_frame) | (fail) | (fail))
    go_ret
    exact ncut_fin hp HE.out hcs hZ h200 h49 H
end Go.Proofs.YtiieakndjheknaaDoor
