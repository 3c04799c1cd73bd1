/-
  THE WALKS OF the reference's Take, Same (sextonref28).
-/
import Derived.Test.YtiieakndjheknaaDoorNrB
import Derived.Test.YtiieakndjheknaaDoorMsgJ
import Derived.Test.YtiieakndjheknaaDoorPk2
namespace Go.Proofs.YtiieakndjheknaaDoor
set_option maxRecDepth 100000
open Go.RowKit
set_option linter.unusedVariables false
set_option linter.unusedSimpArgs false
theorem Hp.mid4 {w0 w : World} {x y z u : Item} (P : List Item) {Z : List Item} (H : Hp w0 w (P ++ (x :: y :: z :: u :: Z))) : Hp w0 w (x :: y :: z :: u :: (P ++ Z)) := H.perm (perm_mid P [x, y, z, u] Z)
/-- what the reference's Take answers -/
def RetRk (w0 : World) (g : Nat) (n : Int) (cut : List Bool) (b : Nat) (cs : List MX) (i : Int) (F Z : List Item) (e : Ending) (w' : World) : Prop :=
  ∃ Z', Z ⊆ Z' ∧ ∃ cs', ntakL cs i = cs' ∧ RfZ w0 w' g n cut b cs' F Z' ∧
    ((cs = [] ∧ e = .returned (.tuple #[.agg (mgC mg0).toArray, .int .i64 280])) ∨ ∃ x, cs[natI cs i]? = some (cx x) ∧ cs ≠ [] ∧ Held Z' [x] ∧ e = .returned (.tuple #[.agg (mgC x.m).toArray, .int .i64 0]))
/-- the loop's relation -/
def TkRel (w0 : World) (fl : List MX) (q : Nat) (X1 X2 X3 : Item) (R : List Item) (v7 v8 : Value) (wr : World) : Prop :=
  ∃ (k : Nat) (left : List MX) (Al : Option Addr) (cl : Nat) (P : List Item), v7 = .slice Al left.length cl ∧ v8 = .int .i64 k ∧ k ≤ fl.length ∧ left = (fl.take k).eraseIdx q ∧ Hp w0 wr (mwI Al cl left :: X1 :: X2 :: X3 :: (P ++ R))
theorem tk_keep {fl : List MX} {q k : Nat} (hk : k < fl.length) (h : k ≠ q) : (fl.take k).eraseIdx q ++ [fl[k]] = (fl.take (k + 1)).eraseIdx q := by
  have hl : (fl.take k).length = k := by rw [List.length_take]; omega
  rw [List.take_succ_eq_append_getElem hk]
  by_cases hq : q < k
  · rw [List.eraseIdx_append_of_lt_length (by omega)]
  · rw [List.eraseIdx_of_length_le (by omega), List.eraseIdx_of_length_le (by simp; omega)]
theorem tk_lose {fl : List MX} {q : Nat} (hk : q < fl.length) : (fl.take q).eraseIdx q = (fl.take (q + 1)).eraseIdx q := by
  have hl : (fl.take q).length = q := by rw [List.length_take]; omega
  rw [List.take_succ_eq_append_getElem hk, List.eraseIdx_append_of_length_le (by omega), List.eraseIdx_of_length_le (by omega), hl, Nat.sub_self]
  simp
theorem Hp.tkOut {w0 w : World} {x y p : Item} (P : List Item) {F Z : List Item} (H : Hp w0 w (y :: x :: (P ++ (p :: (F ++ Z))))) : Hp w0 w (x :: y :: p :: (F ++ (P ++ Z))) := by
  refine (H.perm (perm_mid [y] [x] _)).perm (List.Perm.append_left [x, y] ?_)
  exact (perm_mid P [p] (F ++ Z)).trans (List.Perm.append_left [p] (perm_mid P F Z))
set_option maxHeartbeats 4000000 in
theorem rtake_o {w0 w : World} {g : Nat} {n : Int} {cut : List Bool} {b : Nat} {cs : List MX} {F Z : List Item} (HN : RfZ w0 w g n cut b cs F Z) (i : Int) (hk : i ≤ 9223372036854775807) :
    Calls Tryd.prog 23 #[.pointer (some ⟨g, 0, none⟩), .int .i64 i] w (RetRk w0 g n cut b cs i F Z) := by
  obtain ⟨A, c, fl, B, d, ps, hcs, hZ, h200, hb, h49, hE, H⟩ := HN
  have hlen : cs.length = fl.length := by rw [← hcs, List.length_map]
  have hm2 : fl.length ≤ 200 := by omega
  by_cases h0 : fl.length = 0
  · have e1 : ntakL cs i = cs := if_pos (by omega)
    have e3 : cs = [] := List.length_eq_zero_iff.1 (by omega)
    have d0 : ((fl.length : Int) == 0) = true := beq_iff_eq.2 (by omega)
    have HE := Lib.hid e1
    have HE3 := Lib.hid e3
    clear e1 e3 hlen hm2
    go_enter Tryd.func23, Tryd.ntmps23
    go_wp2_with (first | ((with_reducible refine Hp.allo (ty := 34) H ?_); refine ⟨rfl, ?_⟩; refine ⟨_, z_look rfl, ?_⟩; (clear H; intro gm w1 H); go_frame) | ((with_reducible refine Hp.ld H ?_); refine ⟨rfl, ?_⟩; refine ⟨c_look rfl, ?_⟩; refine ⟨_, _, rfl, ?_⟩; (first | refine ⟨_, _, _, .z, ?_⟩ | refine ⟨_, _, _, .s .z, ?_⟩ | refine ⟨_, _, _, .s (.s .z), ?_⟩ | refine ⟨_, _, _, .s (.s (.s .z)), ?_⟩); refine ⟨_, rfl, ?_⟩; go_frame) | ((with_reducible refine Hp.lda H ?_); refine ⟨rfl, by kernel_rfl, ?_⟩; refine ⟨_, s_look rfl, ?_⟩; refine ⟨_, rfl, ?_⟩; (first | refine ⟨_, _, _, .z, ?_⟩ | refine ⟨_, _, _, .s .z, ?_⟩ | refine ⟨_, _, _, .s (.s .z), ?_⟩ | refine ⟨_, _, _, .s (.s (.s .z)), ?_⟩); refine ⟨rfl, ?_⟩; go_frame) | ((with_reducible refine Hp.lds H ?_); refine ⟨rfl, by kernel_rfl, ?_⟩; refine ⟨_, s_look rfl, ?_⟩; refine ⟨_, _, rfl, ?_⟩; (first | refine ⟨_, _, _, .z, ?_⟩ | refine ⟨_, _, _, .s .z, ?_⟩ | refine ⟨_, _, _, .s (.s .z), ?_⟩ | refine ⟨_, _, _, .s (.s (.s .z)), ?_⟩); (first | refine ⟨[_, _], rfl, rfl, ?_⟩ | refine ⟨[_, _, _, _], rfl, rfl, ?_⟩ | refine ⟨[_, _, _, _, _, _, _], rfl, rfl, ?_⟩ | refine ⟨[_, _, _], rfl, rfl, ?_⟩ | (fail)); go_frame) | ((with_reducible refine Hp.stv H ?_); refine ⟨rfl, ?_⟩; refine ⟨c_look rfl, ?_⟩; (first | refine ⟨.bool _, rfl, ?_⟩ | refine ⟨.int _ _, rfl, ?_⟩ | refine ⟨.string _, rfl, ?_⟩ | refine ⟨.slice _ _ _, rfl, ?_⟩ | refine ⟨.pointer _, rfl, ?_⟩); refine ⟨rfl, _, _, rfl, ?_⟩; (first | refine ⟨_, _, _, .z, ?_⟩ | refine ⟨_, _, _, .s .z, ?_⟩ | refine ⟨_, _, _, .s (.s .z), ?_⟩ | refine ⟨_, _, _, .s (.s (.s .z)), ?_⟩); refine ⟨⟨_, rfl⟩, ?_⟩; (clear H; intro w1 H; simp only [List.set] at H); go_frame) | ((with_reducible refine Hp.sta H ?_); refine ⟨rfl, ?_⟩; refine ⟨_, s_look rfl, ?_⟩; refine ⟨_, rfl, _, rfl, rfl, ?_⟩; (first | refine ⟨_, _, _, .z, ?_⟩ | refine ⟨_, _, _, .s .z, ?_⟩ | refine ⟨_, _, _, .s (.s .z), ?_⟩ | refine ⟨_, _, _, .s (.s (.s .z)), ?_⟩); refine ⟨rfl, rfl, ?_⟩; (clear H; intro w1 H; simp only [List.set] at H); go_frame) | ((with_reducible refine Hp.str H ?_); refine ⟨rfl, ?_⟩; refine ⟨_, s_look rfl, ?_⟩; refine ⟨_, _, rfl, _, rfl, rfl, ?_⟩; (first | refine ⟨_, _, _, .z, ?_⟩ | refine ⟨_, _, _, .s .z, ?_⟩ | refine ⟨_, _, _, .s (.s .z), ?_⟩ | refine ⟨_, _, _, .s (.s (.s .z)), ?_⟩); refine ⟨rfl, _, rfl, _, rfl, Nat.le_of_ble_eq_true rfl, ?_⟩; (clear H; intro w1 H; simp only [List.set] at H); go_frame) | ((with_reducible refine Hp.bdl (t := 34) (parts := []) H ?_); refine ⟨rfl, _, b_msg00, ?_⟩; go_frame) | (fail))
    exact bodyPost_ret (v := .tuple #[.agg (mgC mg0).toArray, .int .i64 280]) (results_ct rfl rfl (H.var (by kernel_rfl) (t := 34) (cs := mgC mg0) .z s_Msg) rfl) rfl ⟨Z, fun _ h => h, cs, HE.out, ⟨A, c, fl, B, d, ps, hcs, hZ, h200, hb, h49, hE, H.tail⟩, .inl ⟨HE3.out, rfl⟩⟩
  · have hpos : 0 < fl.length := by omega
    have d0 : ((fl.length : Int) == 0) = false := beq_eq_false_iff_ne.2 (by omega)
    obtain ⟨gA, rfl⟩ := H.rowsA 1 rfl hpos
    obtain ⟨q, hq⟩ : ∃ q, natJ fl.length i = q := ⟨_, rfl⟩
    have hlt : q < fl.length := hq ▸ natJ_lt hpos i
    have hmem : fl[q] ∈ fl := List.getElem_mem hlt
    have e1 : ntakL cs i = (fl.eraseIdx q).map cx := by
      unfold ntakL natI
      rw [if_neg (by omega), hlen, hq, ← hcs, erase_map]
    have e2 : cs[natI cs i]? = some (cx fl[q]) := by
      unfold natI
      rw [hlen, hq, ← hcs, List.getElem?_map, List.getElem?_eq_getElem hlt]
      rfl
    have e3 : cs ≠ [] := fun h => by rw [h] at hlen; simp at hlen; omega
    have HE := Lib.hid e1
    have HE2 := Lib.hid e2
    have HE3 := Lib.hid e3
    have HMEM := Lib.hid hmem
    clear e1 e2 e3 hmem hlen h0
    go_enter Tryd.func23, Tryd.ntmps23
    go_wp2_with (first | ((with_reducible refine Hp.allo (ty := 34) H ?_); refine ⟨rfl, ?_⟩; refine ⟨_, z_look rfl, ?_⟩; (clear H; intro gm w1 H); go_frame) | ((with_reducible refine Hp.ld H ?_); refine ⟨rfl, ?_⟩; refine ⟨c_look rfl, ?_⟩; refine ⟨_, _, rfl, ?_⟩; (first | refine ⟨_, _, _, .z, ?_⟩ | refine ⟨_, _, _, .s .z, ?_⟩ | refine ⟨_, _, _, .s (.s .z), ?_⟩ | refine ⟨_, _, _, .s (.s (.s .z)), ?_⟩); refine ⟨_, rfl, ?_⟩; go_frame) | ((with_reducible refine Hp.lda H ?_); refine ⟨rfl, by kernel_rfl, ?_⟩; refine ⟨_, s_look rfl, ?_⟩; refine ⟨_, rfl, ?_⟩; (first | refine ⟨_, _, _, .z, ?_⟩ | refine ⟨_, _, _, .s .z, ?_⟩ | refine ⟨_, _, _, .s (.s .z), ?_⟩ | refine ⟨_, _, _, .s (.s (.s .z)), ?_⟩); refine ⟨rfl, ?_⟩; go_frame) | ((with_reducible refine Hp.lds H ?_); refine ⟨rfl, by kernel_rfl, ?_⟩; refine ⟨_, s_look rfl, ?_⟩; refine ⟨_, _, rfl, ?_⟩; (first | refine ⟨_, _, _, .z, ?_⟩ | refine ⟨_, _, _, .s .z, ?_⟩ | refine ⟨_, _, _, .s (.s .z), ?_⟩ | refine ⟨_, _, _, .s (.s (.s .z)), ?_⟩); (first | refine ⟨[_, _], rfl, rfl, ?_⟩ | refine ⟨[_, _, _, _], rfl, rfl, ?_⟩ | refine ⟨[_, _, _, _, _, _, _], rfl, rfl, ?_⟩ | refine ⟨[_, _, _], rfl, rfl, ?_⟩ | (fail)); go_frame) | ((with_reducible refine Hp.stv H ?_); refine ⟨rfl, ?_⟩; refine ⟨c_look rfl, ?_⟩; (first | refine ⟨.bool _, rfl, ?_⟩ | refine ⟨.int _ _, rfl, ?_⟩ | refine ⟨.string _, rfl, ?_⟩ | refine ⟨.slice _ _ _, rfl, ?_⟩ | refine ⟨.pointer _, rfl, ?_⟩); refine ⟨rfl, _, _, rfl, ?_⟩; (first | refine ⟨_, _, _, .z, ?_⟩ | refine ⟨_, _, _, .s .z, ?_⟩ | refine ⟨_, _, _, .s (.s .z), ?_⟩ | refine ⟨_, _, _, .s (.s (.s .z)), ?_⟩); refine ⟨⟨_, rfl⟩, ?_⟩; (clear H; intro w1 H; simp only [List.set] at H); go_frame) | ((with_reducible refine Hp.sta H ?_); refine ⟨rfl, ?_⟩; refine ⟨_, s_look rfl, ?_⟩; refine ⟨_, rfl, _, rfl, rfl, ?_⟩; (first | refine ⟨_, _, _, .z, ?_⟩ | refine ⟨_, _, _, .s .z, ?_⟩ | refine ⟨_, _, _, .s (.s .z), ?_⟩ | refine ⟨_, _, _, .s (.s (.s .z)), ?_⟩); refine ⟨rfl, rfl, ?_⟩; (clear H; intro w1 H; simp only [List.set] at H); go_frame) | ((with_reducible refine Hp.str H ?_); refine ⟨rfl, ?_⟩; refine ⟨_, s_look rfl, ?_⟩; refine ⟨_, _, rfl, _, rfl, rfl, ?_⟩; (first | refine ⟨_, _, _, .z, ?_⟩ | refine ⟨_, _, _, .s .z, ?_⟩ | refine ⟨_, _, _, .s (.s .z), ?_⟩ | refine ⟨_, _, _, .s (.s (.s .z)), ?_⟩); refine ⟨rfl, _, rfl, _, rfl, Nat.le_of_ble_eq_true rfl, ?_⟩; (clear H; intro w1 H; simp only [List.set] at H); go_frame) | ((with_reducible refine Hp.bdl (t := 34) (parts := []) H ?_); refine ⟨rfl, _, b_msg00, ?_⟩; go_frame) | ((with_reducible refine (rplace_h H.rot2 hpos hm2 hk hq).mono ?_); rintro _ w1 ⟨rfl, HQ⟩; replace H := HQ.rot2; clear HQ))
    have hat : TkRel w0 fl q (.blk gm 34 (mgC mg0)) (rfI g n (some ⟨gA, 0, none⟩) fl.length c B ps.length d) (mwI (some ⟨gA, 0, none⟩) c fl) (prI B d ps :: (F ++ Z)) (.slice none 0 0) (.int .i64 (0 : Nat)) w1 := ⟨0, [], none, 0, [], rfl, rfl, Nat.zero_le _, by simp, H.nilRow _ _⟩
    clear H
    go_loopw [7, 8] (fun v7 v8 wr => TkRel w0 fl q (.blk gm 34 (mgC mg0)) (rfI g n (some ⟨gA, 0, none⟩) fl.length c B ps.length d) (mwI (some ⟨gA, 0, none⟩) c fl) (prI B d ps :: (F ++ Z)) v7 v8 wr) (fun _ v8 _ => fl.length - (intOf v8).toNat)
    case atStart => exact hat
    case round =>
      clear hat
      obtain ⟨k, left, Al, cl, P, rfl, rfl, hkk, hlf, H⟩ := hrel
      by_cases hkl : k < fl.length
      · have hk1 : IntKind.i64.wrap ((k : Int) + 1) = ((k + 1 : Nat) : Int) := IntWalk.i64_in _ (by omega)
        have hol : left.length ≤ 1000000 := by rw [hlf]; exact Nat.le_trans (List.length_eraseIdx_le _ _) (by rw [List.length_take]; omega)
        by_cases hkq : k = q
        · subst hkq
          have dn : ((k : Int) != (k : Int)) = false := by simp
          have HLF := Lib.hid hlf
          clear hlf
          go_wp2_with (first | ((with_reducible refine Hp.allo (ty := 34) H ?_); refine ⟨rfl, ?_⟩; refine ⟨_, z_look rfl, ?_⟩; (clear H; intro gm w1 H); go_frame) | ((with_reducible refine Hp.ld H ?_); refine ⟨rfl, ?_⟩; refine ⟨c_look rfl, ?_⟩; refine ⟨_, _, rfl, ?_⟩; (first | refine ⟨_, _, _, .z, ?_⟩ | refine ⟨_, _, _, .s .z, ?_⟩ | refine ⟨_, _, _, .s (.s .z), ?_⟩ | refine ⟨_, _, _, .s (.s (.s .z)), ?_⟩); refine ⟨_, rfl, ?_⟩; go_frame) | ((with_reducible refine Hp.lda H ?_); refine ⟨rfl, by kernel_rfl, ?_⟩; refine ⟨_, s_look rfl, ?_⟩; refine ⟨_, rfl, ?_⟩; (first | refine ⟨_, _, _, .z, ?_⟩ | refine ⟨_, _, _, .s .z, ?_⟩ | refine ⟨_, _, _, .s (.s .z), ?_⟩ | refine ⟨_, _, _, .s (.s (.s .z)), ?_⟩); refine ⟨rfl, ?_⟩; go_frame) | ((with_reducible refine Hp.lds H ?_); refine ⟨rfl, by kernel_rfl, ?_⟩; refine ⟨_, s_look rfl, ?_⟩; refine ⟨_, _, rfl, ?_⟩; (first | refine ⟨_, _, _, .z, ?_⟩ | refine ⟨_, _, _, .s .z, ?_⟩ | refine ⟨_, _, _, .s (.s .z), ?_⟩ | refine ⟨_, _, _, .s (.s (.s .z)), ?_⟩); (first | refine ⟨[_, _], rfl, rfl, ?_⟩ | refine ⟨[_, _, _, _], rfl, rfl, ?_⟩ | refine ⟨[_, _, _, _, _, _, _], rfl, rfl, ?_⟩ | refine ⟨[_, _, _], rfl, rfl, ?_⟩ | (fail)); go_frame) | ((with_reducible refine Hp.stv H ?_); refine ⟨rfl, ?_⟩; refine ⟨c_look rfl, ?_⟩; (first | refine ⟨.bool _, rfl, ?_⟩ | refine ⟨.int _ _, rfl, ?_⟩ | refine ⟨.string _, rfl, ?_⟩ | refine ⟨.slice _ _ _, rfl, ?_⟩ | refine ⟨.pointer _, rfl, ?_⟩); refine ⟨rfl, _, _, rfl, ?_⟩; (first | refine ⟨_, _, _, .z, ?_⟩ | refine ⟨_, _, _, .s .z, ?_⟩ | refine ⟨_, _, _, .s (.s .z), ?_⟩ | refine ⟨_, _, _, .s (.s (.s .z)), ?_⟩); refine ⟨⟨_, rfl⟩, ?_⟩; (clear H; intro w1 H; simp only [List.set] at H); go_frame) | ((with_reducible refine Hp.sta H ?_); refine ⟨rfl, ?_⟩; refine ⟨_, s_look rfl, ?_⟩; refine ⟨_, rfl, _, rfl, rfl, ?_⟩; (first | refine ⟨_, _, _, .z, ?_⟩ | refine ⟨_, _, _, .s .z, ?_⟩ | refine ⟨_, _, _, .s (.s .z), ?_⟩ | refine ⟨_, _, _, .s (.s (.s .z)), ?_⟩); refine ⟨rfl, rfl, ?_⟩; (clear H; intro w1 H; simp only [List.set] at H); go_frame) | ((with_reducible refine Hp.str H ?_); refine ⟨rfl, ?_⟩; refine ⟨_, s_look rfl, ?_⟩; refine ⟨_, _, rfl, _, rfl, rfl, ?_⟩; (first | refine ⟨_, _, _, .z, ?_⟩ | refine ⟨_, _, _, .s .z, ?_⟩ | refine ⟨_, _, _, .s (.s .z), ?_⟩ | refine ⟨_, _, _, .s (.s (.s .z)), ?_⟩); refine ⟨rfl, _, rfl, _, rfl, Nat.le_of_ble_eq_true rfl, ?_⟩; (clear H; intro w1 H; simp only [List.set] at H); go_frame) | ((with_reducible refine Hp.bdl (t := 34) (parts := []) H ?_); refine ⟨rfl, _, b_msg00, ?_⟩; go_frame) | (fail))
          go_roundw
          case rel => exact ⟨k + 1, left, Al, cl, P, rfl, rfl, hkl, HLF.out.trans (tk_lose hkl), H⟩
          case measure => show fl.length - (k + 1) < fl.length - k; omega
        · have dn : ((k : Int) != (q : Int)) = true := bne_iff_ne.2 (by omega)
          have hlf2 : left ++ [fl[k]] = (fl.take (k + 1)).eraseIdx q := by rw [hlf]; exact tk_keep hkl hkq
          have HLF := Lib.hid hlf2
          clear hlf hlf2
          go_wp2_with (first | ((with_reducible refine Hp.allo (ty := 34) H ?_); refine ⟨rfl, ?_⟩; refine ⟨_, z_look rfl, ?_⟩; (clear H; intro gm w1 H); go_frame) | ((with_reducible refine Hp.ld H ?_); refine ⟨rfl, ?_⟩; refine ⟨c_look rfl, ?_⟩; refine ⟨_, _, rfl, ?_⟩; (first | refine ⟨_, _, _, .z, ?_⟩ | refine ⟨_, _, _, .s .z, ?_⟩ | refine ⟨_, _, _, .s (.s .z), ?_⟩ | refine ⟨_, _, _, .s (.s (.s .z)), ?_⟩); refine ⟨_, rfl, ?_⟩; go_frame) | ((with_reducible refine Hp.lda H ?_); refine ⟨rfl, by kernel_rfl, ?_⟩; refine ⟨_, s_look rfl, ?_⟩; refine ⟨_, rfl, ?_⟩; (first | refine ⟨_, _, _, .z, ?_⟩ | refine ⟨_, _, _, .s .z, ?_⟩ | refine ⟨_, _, _, .s (.s .z), ?_⟩ | refine ⟨_, _, _, .s (.s (.s .z)), ?_⟩); refine ⟨rfl, ?_⟩; go_frame) | ((with_reducible refine Hp.lds H ?_); refine ⟨rfl, by kernel_rfl, ?_⟩; refine ⟨_, s_look rfl, ?_⟩; refine ⟨_, _, rfl, ?_⟩; (first | refine ⟨_, _, _, .z, ?_⟩ | refine ⟨_, _, _, .s .z, ?_⟩ | refine ⟨_, _, _, .s (.s .z), ?_⟩ | refine ⟨_, _, _, .s (.s (.s .z)), ?_⟩); (first | refine ⟨[_, _], rfl, rfl, ?_⟩ | refine ⟨[_, _, _, _], rfl, rfl, ?_⟩ | refine ⟨[_, _, _, _, _, _, _], rfl, rfl, ?_⟩ | refine ⟨[_, _, _], rfl, rfl, ?_⟩ | (fail)); go_frame) | ((with_reducible refine Hp.stv H ?_); refine ⟨rfl, ?_⟩; refine ⟨c_look rfl, ?_⟩; (first | refine ⟨.bool _, rfl, ?_⟩ | refine ⟨.int _ _, rfl, ?_⟩ | refine ⟨.string _, rfl, ?_⟩ | refine ⟨.slice _ _ _, rfl, ?_⟩ | refine ⟨.pointer _, rfl, ?_⟩); refine ⟨rfl, _, _, rfl, ?_⟩; (first | refine ⟨_, _, _, .z, ?_⟩ | refine ⟨_, _, _, .s .z, ?_⟩ | refine ⟨_, _, _, .s (.s .z), ?_⟩ | refine ⟨_, _, _, .s (.s (.s .z)), ?_⟩); refine ⟨⟨_, rfl⟩, ?_⟩; (clear H; intro w1 H; simp only [List.set] at H); go_frame) | ((with_reducible refine Hp.sta H ?_); refine ⟨rfl, ?_⟩; refine ⟨_, s_look rfl, ?_⟩; refine ⟨_, rfl, _, rfl, rfl, ?_⟩; (first | refine ⟨_, _, _, .z, ?_⟩ | refine ⟨_, _, _, .s .z, ?_⟩ | refine ⟨_, _, _, .s (.s .z), ?_⟩ | refine ⟨_, _, _, .s (.s (.s .z)), ?_⟩); refine ⟨rfl, rfl, ?_⟩; (clear H; intro w1 H; simp only [List.set] at H); go_frame) | ((with_reducible refine Hp.str H ?_); refine ⟨rfl, ?_⟩; refine ⟨_, s_look rfl, ?_⟩; refine ⟨_, _, rfl, _, rfl, rfl, ?_⟩; (first | refine ⟨_, _, _, .z, ?_⟩ | refine ⟨_, _, _, .s .z, ?_⟩ | refine ⟨_, _, _, .s (.s .z), ?_⟩ | refine ⟨_, _, _, .s (.s (.s .z)), ?_⟩); refine ⟨rfl, _, rfl, _, rfl, Nat.le_of_ble_eq_true rfl, ?_⟩; (clear H; intro w1 H; simp only [List.set] at H); go_frame) | ((with_reducible refine Hp.bdl (t := 34) (parts := []) H ?_); refine ⟨rfl, _, b_msg00, ?_⟩; go_frame) | ((with_reducible refine Hp.ldRow (f := mxC) mxC_len H ?_); refine ⟨rfl, by kernel_rfl, s_Msg, _, _, rfl, 3, _, _, _, rfl, k, rfl, hkl, ?_⟩; go_frame) | ((with_reducible refine Hp.bsl1 H ms_u ms_info2 rfl rfl ?_); refine ⟨rfl, mgC fl[k].m, rfl, rfl, ?_⟩; (clear H; intro gb w1 H); go_frame) | (at_builtin; (with_reducible refine Hp.wlAppRow H ms_u ms_info rfl rfl rfl ?_); refine ⟨1, _, _, _, _, rfl, rfl, 0, _, _, _, _, rfl, rfl, rfl, mgC_one _, hol, ?_⟩; (clear H; intro A3 c3 w1 H); simp only [List.set_cons_succ, List.set_cons_zero] at H))
          have e : Item.own 34 27 A3 (left.length + 1) c3 (rowsC mxC left ++ mgC fl[k].m) = mwI A3 c3 (left ++ [fl[k]]) := mw_app left fl[k] A3 c3
          rw [e] at H
          go_roundw
          case rel => exact ⟨k + 1, left ++ [fl[k]], A3, c3, _ :: P, by rw [List.length_append]; rfl, rfl, hkl, HLF.out, H.mid4 [_]⟩
          case measure => show fl.length - (k + 1) < fl.length - k; omega
      · obtain rfl : k = fl.length := by omega
        have hjj : decide ((fl.length : Int) < (fl.length : Int)) = false := decide_eq_false (by omega)
        rw [List.take_length] at hlf
        have HLF := Lib.hid hlf
        clear hlf
        go_wp2_with (first | ((with_reducible refine Hp.allo (ty := 34) H ?_); refine ⟨rfl, ?_⟩; refine ⟨_, z_look rfl, ?_⟩; (clear H; intro g9 w1 H); go_frame) | ((with_reducible refine Hp.ld H ?_); refine ⟨rfl, ?_⟩; refine ⟨c_look rfl, ?_⟩; refine ⟨_, _, rfl, ?_⟩; (first | refine ⟨_, _, _, .z, ?_⟩ | refine ⟨_, _, _, .s .z, ?_⟩ | refine ⟨_, _, _, .s (.s .z), ?_⟩ | refine ⟨_, _, _, .s (.s (.s .z)), ?_⟩); refine ⟨_, rfl, ?_⟩; go_frame) | ((with_reducible refine Hp.lda H ?_); refine ⟨rfl, by kernel_rfl, ?_⟩; refine ⟨_, s_look rfl, ?_⟩; refine ⟨_, rfl, ?_⟩; (first | refine ⟨_, _, _, .z, ?_⟩ | refine ⟨_, _, _, .s .z, ?_⟩ | refine ⟨_, _, _, .s (.s .z), ?_⟩ | refine ⟨_, _, _, .s (.s (.s .z)), ?_⟩); refine ⟨rfl, ?_⟩; go_frame) | ((with_reducible refine Hp.lds H ?_); refine ⟨rfl, by kernel_rfl, ?_⟩; refine ⟨_, s_look rfl, ?_⟩; refine ⟨_, _, rfl, ?_⟩; (first | refine ⟨_, _, _, .z, ?_⟩ | refine ⟨_, _, _, .s .z, ?_⟩ | refine ⟨_, _, _, .s (.s .z), ?_⟩ | refine ⟨_, _, _, .s (.s (.s .z)), ?_⟩); (first | refine ⟨[_, _], rfl, rfl, ?_⟩ | refine ⟨[_, _, _, _], rfl, rfl, ?_⟩ | refine ⟨[_, _, _, _, _, _, _], rfl, rfl, ?_⟩ | refine ⟨[_, _, _], rfl, rfl, ?_⟩ | (fail)); go_frame) | ((with_reducible refine Hp.stv H ?_); refine ⟨rfl, ?_⟩; refine ⟨c_look rfl, ?_⟩; (first | refine ⟨.bool _, rfl, ?_⟩ | refine ⟨.int _ _, rfl, ?_⟩ | refine ⟨.string _, rfl, ?_⟩ | refine ⟨.slice _ _ _, rfl, ?_⟩ | refine ⟨.pointer _, rfl, ?_⟩); refine ⟨rfl, _, _, rfl, ?_⟩; (first | refine ⟨_, _, _, .z, ?_⟩ | refine ⟨_, _, _, .s .z, ?_⟩ | refine ⟨_, _, _, .s (.s .z), ?_⟩ | refine ⟨_, _, _, .s (.s (.s .z)), ?_⟩); refine ⟨⟨_, rfl⟩, ?_⟩; (clear H; intro w1 H; simp only [List.set] at H); go_frame) | ((with_reducible refine Hp.sta H ?_); refine ⟨rfl, ?_⟩; refine ⟨_, s_look rfl, ?_⟩; refine ⟨_, rfl, _, rfl, rfl, ?_⟩; (first | refine ⟨_, _, _, .z, ?_⟩ | refine ⟨_, _, _, .s .z, ?_⟩ | refine ⟨_, _, _, .s (.s .z), ?_⟩ | refine ⟨_, _, _, .s (.s (.s .z)), ?_⟩); refine ⟨rfl, rfl, ?_⟩; (clear H; intro w1 H; simp only [List.set] at H); go_frame) | ((with_reducible refine Hp.str H ?_); refine ⟨rfl, ?_⟩; refine ⟨_, s_look rfl, ?_⟩; refine ⟨_, _, rfl, _, rfl, rfl, ?_⟩; (first | refine ⟨_, _, _, .z, ?_⟩ | refine ⟨_, _, _, .s .z, ?_⟩ | refine ⟨_, _, _, .s (.s .z), ?_⟩ | refine ⟨_, _, _, .s (.s (.s .z)), ?_⟩); refine ⟨rfl, _, rfl, _, rfl, Nat.le_of_ble_eq_true rfl, ?_⟩; (clear H; intro w1 H; simp only [List.set] at H); go_frame) | ((with_reducible refine Hp.bdl (t := 34) (parts := []) H ?_); refine ⟨rfl, _, b_msg00, ?_⟩; go_frame) | ((with_reducible refine Hp.ldRow (f := mxC) mxC_len H ?_); refine ⟨rfl, by kernel_rfl, s_Msg, _, _, rfl, 3, _, _, _, rfl, q, rfl, hlt, ?_⟩; go_frame))
        refine bodyPost_ret (v := .tuple #[.agg (mgC fl[q].m).toArray, .int .i64 0]) (results_ct rfl rfl (H.var (by kernel_rfl) (t := 34) (cs := mgC fl[q].m) (.s (.s .z)) s_Msg) rfl) rfl ⟨P ++ Z, sub_app P Z, _, HE.out, ⟨Al, cl, left, B, d, ps, by rw [HLF.out], ?_, ?_, hb, h49, hE, ?_⟩, .inr ⟨fl[q], HE2.out, HE3.out, (hZ.sub ?_).mono (sub_app P Z), rfl⟩⟩
        · rw [HLF.out]
          exact (hZ.sub List.eraseIdx_subset).mono (sub_app P Z)
        · rw [List.length_map]
          exact Nat.le_trans (List.length_eraseIdx_le _ _) hm2
        · have H2 : Hp w0 _ (mwI Al cl left :: rfI g n Al left.length cl B ps.length d :: (P ++ (prI B d ps :: (F ++ Z)))) := H.sub (((((List.Sublist.refl _).cons _).cons_cons _).cons _).cons_cons _ |>.cons _)
          exact H2.tkOut P
        · intro x hx
          obtain rfl := List.mem_singleton.1 hx
          exact HMEM.out
/-! Same -/
def SsRel (w0 : World) (N : Nat) (v : Value) (wr : World) : Prop := ∃ k : Nat, v = .int .i64 k ∧ k ≤ N ∧ Hp w0 wr []
set_option maxHeartbeats 2000000 in
theorem rsames_any (A B : Option Addr) (c d : Nat) (xs ys : List MX) (w : World) (h : xs.map cx = ys.map cx) (hx : RdR mxC 27 w A xs) (hy : RdR mxC 27 w B ys) (h1 : ∀ x ∈ xs, MgR w x.m x.rs x.l) (h2 : ∀ x ∈ ys, MgR w x.m x.rs x.l) (hl : xs.length ≤ 1000) :
    Calls Tryd.prog 27 #[.slice A xs.length c, .slice B ys.length d] w (RetV w (.bool true)) := by
  have hlen : xs.length = ys.length := by have := congrArg List.length h; rwa [List.length_map, List.length_map] at this
  have hd : ((xs.length : Int) != (ys.length : Int)) = false := by rw [hlen]; simp
  have H := Hp.nil w
  have hat : SsRel w xs.length (.int .i64 (0 : Nat)) w := ⟨0, rfl, Nat.zero_le _, H⟩
  clear H
  go_enter Tryd.func27, Tryd.ntmps27
  go_wp2_with fail
  go_loopw [5] (fun v wr => SsRel w xs.length v wr) (fun v _ => xs.length - (intOf v).toNat)
  case atStart => exact hat
  case round =>
    clear hat
    obtain ⟨k, rfl, hk, H⟩ := hrel
    by_cases hlt : k < xs.length
    · have hk1 : IntKind.i64.wrap ((k : Int) + 1) = ((k + 1 : Nat) : Int) := IntWalk.i64_in _ (by omega)
      have hlt2 : k < ys.length := by omega
      obtain ⟨bx, ox, rfl, hcx⟩ := hx.at_ hlt
      obtain ⟨by_, oy, rfl, hcy⟩ := hy.at_ hlt2
      have hrx := hcx k hlt
      have hry := hcy k hlt2
      have hmx := h1 _ (List.getElem_mem hlt)
      have hmy := h2 _ (List.getElem_mem hlt2)
      have he : cx xs[k] = cx ys[k] := by
        have h3 : (xs.map cx)[k]? = (ys.map cx)[k]? := by rw [h]
        rw [List.getElem?_map, List.getElem?_map, List.getElem?_eq_getElem hlt, List.getElem?_eq_getElem hlt2] at h3
        injection h3
      have hsame : sameM xs[k].m xs[k].rs xs[k].l ys[k].m ys[k].rs ys[k].l = true := sameX.2 he
      clear hcx hcy he hx hy h1 h2 h hd
      go_wp2_with (first | ((with_reducible refine Hp.lda H ?_); refine ⟨rfl, by kernel_rfl, ?_⟩; refine ⟨_, s_look rfl, ?_⟩; refine ⟨_, rfl, ?_⟩; (first | refine ⟨_, _, _, .z, ?_⟩ | refine ⟨_, _, _, .s .z, ?_⟩ | refine ⟨_, _, _, .s (.s .z), ?_⟩ | refine ⟨_, _, _, .s (.s (.s .z)), ?_⟩); refine ⟨rfl, ?_⟩; go_frame) | ((with_reducible refine Hp.lds H ?_); refine ⟨rfl, by kernel_rfl, ?_⟩; refine ⟨_, s_look rfl, ?_⟩; refine ⟨_, _, rfl, ?_⟩; (first | refine ⟨_, _, _, .z, ?_⟩ | refine ⟨_, _, _, .s .z, ?_⟩ | refine ⟨_, _, _, .s (.s .z), ?_⟩ | refine ⟨_, _, _, .s (.s (.s .z)), ?_⟩); (first | refine ⟨[_, _], rfl, rfl, ?_⟩ | refine ⟨[_, _, _, _], rfl, rfl, ?_⟩ | refine ⟨[_, _, _, _, _, _, _], rfl, rfl, ?_⟩ | refine ⟨[_, _, _], rfl, rfl, ?_⟩ | (fail)); go_frame) | (fail))
      ((with_reducible refine wp_region_hpK H (by kernel_rfl) (by kernel_rfl) ?_); intro _ KQ hKQ; (repeat (first | go_big_quiet_skip | ((with_reducible refine hq_lda ?_); refine ⟨rfl, by kernel_rfl, ?_⟩; refine ⟨_, s_look rfl, ?_⟩; refine ⟨_, rfl, ?_⟩; (first | refine ⟨_, _, _, .z, ?_⟩ | refine ⟨_, _, _, .s .z, ?_⟩ | refine ⟨_, _, _, .s (.s .z), ?_⟩ | refine ⟨_, _, _, .s (.s (.s .z)), ?_⟩); refine ⟨rfl, ?_⟩; go_frame) | ((with_reducible refine hq_lds ?_); refine ⟨rfl, by kernel_rfl, ?_⟩; refine ⟨_, s_look rfl, ?_⟩; refine ⟨_, _, rfl, ?_⟩; (first | refine ⟨_, _, _, .z, ?_⟩ | refine ⟨_, _, _, .s .z, ?_⟩ | refine ⟨_, _, _, .s (.s .z), ?_⟩ | refine ⟨_, _, _, .s (.s (.s .z)), ?_⟩); (first | refine ⟨[_, _], rfl, rfl, ?_⟩ | refine ⟨[_, _, _, _], rfl, rfl, ?_⟩ | refine ⟨[_, _, _, _, _, _, _], rfl, rfl, ?_⟩ | refine ⟨[_, _, _], rfl, rfl, ?_⟩ | (fail)); go_frame) | ((with_reducible refine hq_ldrO ?_); refine ⟨rfl, by kernel_rfl, _, _, rfl, mgC xs[k].m, hrx, s_Msg, ?_⟩; go_frame) | ((with_reducible refine hq_ldrO ?_); refine ⟨rfl, by kernel_rfl, _, _, rfl, mgC ys[k].m, hry, s_Msg, ?_⟩; go_frame) | go_big_quiet_step ((with_reducible exact hq_call (rsame_v hsame (hmx.rdx _) (hmy.rdx _)))))); (with_reducible refine wpQuiet_nil (hKQ _ ?_)); clear hKQ; clear KQ H; intro w1 H)
      go_wp2_with (first | ((with_reducible refine Hp.lda H ?_); refine ⟨rfl, by kernel_rfl, ?_⟩; refine ⟨_, s_look rfl, ?_⟩; refine ⟨_, rfl, ?_⟩; (first | refine ⟨_, _, _, .z, ?_⟩ | refine ⟨_, _, _, .s .z, ?_⟩ | refine ⟨_, _, _, .s (.s .z), ?_⟩ | refine ⟨_, _, _, .s (.s (.s .z)), ?_⟩); refine ⟨rfl, ?_⟩; go_frame) | ((with_reducible refine Hp.lds H ?_); refine ⟨rfl, by kernel_rfl, ?_⟩; refine ⟨_, s_look rfl, ?_⟩; refine ⟨_, _, rfl, ?_⟩; (first | refine ⟨_, _, _, .z, ?_⟩ | refine ⟨_, _, _, .s .z, ?_⟩ | refine ⟨_, _, _, .s (.s .z), ?_⟩ | refine ⟨_, _, _, .s (.s (.s .z)), ?_⟩); (first | refine ⟨[_, _], rfl, rfl, ?_⟩ | refine ⟨[_, _, _, _], rfl, rfl, ?_⟩ | refine ⟨[_, _, _, _, _, _, _], rfl, rfl, ?_⟩ | refine ⟨[_, _, _], rfl, rfl, ?_⟩ | (fail)); go_frame) | (fail))
      go_roundw
      case rel => exact ⟨k + 1, rfl, hlt, H⟩
      case measure => show xs.length - (k + 1) < xs.length - k; omega
    · obtain rfl : k = xs.length := by omega
      have hjj : decide ((xs.length : Int) < (xs.length : Int)) = false := decide_eq_false (by omega)
      go_wp2_with (first | ((with_reducible refine Hp.lda H ?_); refine ⟨rfl, by kernel_rfl, ?_⟩; refine ⟨_, s_look rfl, ?_⟩; refine ⟨_, rfl, ?_⟩; (first | refine ⟨_, _, _, .z, ?_⟩ | refine ⟨_, _, _, .s .z, ?_⟩ | refine ⟨_, _, _, .s (.s .z), ?_⟩ | refine ⟨_, _, _, .s (.s (.s .z)), ?_⟩); refine ⟨rfl, ?_⟩; go_frame) | ((with_reducible refine Hp.lds H ?_); refine ⟨rfl, by kernel_rfl, ?_⟩; refine ⟨_, s_look rfl, ?_⟩; refine ⟨_, _, rfl, ?_⟩; (first | refine ⟨_, _, _, .z, ?_⟩ | refine ⟨_, _, _, .s .z, ?_⟩ | refine ⟨_, _, _, .s (.s .z), ?_⟩ | refine ⟨_, _, _, .s (.s (.s .z)), ?_⟩); (first | refine ⟨[_, _], rfl, rfl, ?_⟩ | refine ⟨[_, _, _, _], rfl, rfl, ?_⟩ | refine ⟨[_, _, _, _, _, _, _], rfl, rfl, ?_⟩ | refine ⟨[_, _, _], rfl, rfl, ?_⟩ | (fail)); go_frame) | (fail))
      go_ret
      exact ⟨rfl, H.below⟩
end Go.Proofs.YtiieakndjheknaaDoor
