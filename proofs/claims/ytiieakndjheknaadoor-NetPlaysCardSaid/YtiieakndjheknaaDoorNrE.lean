/-
  THE WALK OF the reference's Cut (sextonref28).
-/
import Derived.Test.YtiieakndjheknaaDoorNrD
import Derived.Test.YtiieakndjheknaaDoorNtN
namespace Go.Proofs.YtiieakndjheknaaDoor
set_option maxRecDepth 100000
open Go.RowKit
set_option linter.unusedVariables false
set_option linter.unusedSimpArgs false
theorem crowd_7 {n : Int} (hn : crowdB n = true) : 3 ≤ n ∧ n ≤ 7 := by
  simp only [crowdB, Bool.or_eq_true, beq_iff_eq] at hn
  rcases hn with h | h | h <;> subst h <;> decide
theorem prM_pair {n a b x y : Int} (hn : n ≤ 7) (hp : pairB n a b = true) : prM x y (a, b) = (pairB n x y && decide (ixC a b = ixC x y)) := by
  simp only [pairB, Bool.and_eq_true, decide_eq_true_eq, bne_iff_ne] at hp
  rw [Bool.eq_iff_iff]
  simp only [prM, pairB, Bool.or_eq_true, Bool.and_eq_true, decide_eq_true_eq, beq_iff_eq, bne_iff_ne]
  unfold ixC
  obtain ⟨A, hA⟩ : ∃ i : Nat, min a b = i := ⟨(min a b).toNat, by omega⟩
  obtain ⟨B, hB⟩ : ∃ i : Nat, max a b = i := ⟨(max a b).toNat, by omega⟩
  rw [hA, hB, Int.toNat_natCast, Int.toNat_natCast]
  constructor
  · rintro (⟨rfl, rfl⟩ | ⟨rfl, rfl⟩)
    · exact ⟨by omega, by rw [hA, hB]; rfl⟩
    · exact ⟨by omega, by rw [Int.min_comm, Int.max_comm, hA, hB]; rfl⟩
  · rintro ⟨h1, h2⟩
    obtain ⟨X, hX⟩ : ∃ i : Nat, min x y = i := ⟨(min x y).toNat, by omega⟩
    obtain ⟨Y, hY⟩ : ∃ i : Nat, max x y = i := ⟨(max x y).toNat, by omega⟩
    rw [hX, hY, Int.toNat_natCast, Int.toNat_natCast] at h2
    omega
theorem cut_more {n a b : Int} {cut : List Bool} {ps : List (Int × Int)} (hn : n ≤ 7) (h49 : cut.length = 49) (hE : ∀ x y, cutP ps x y = cutB n cut x y) (hp : pairB n a b = true) (x y : Int) : cutP (ps ++ [(a, b)]) x y = cutB n (cut.set (ixC a b) true) x y := by
  have h1 : cutP (ps ++ [(a, b)]) x y = (cutP ps x y || prM x y (a, b)) := by
    unfold cutP
    rw [List.any_append]
    simp
  have hlt : ixC a b < cut.length := by
    simp only [pairB, Bool.and_eq_true, decide_eq_true_eq, bne_iff_ne] at hp
    unfold ixC
    omega
  rw [h1, hE, prM_pair hn hp]
  unfold cutB
  rw [getD_set hlt]
  cases pairB n x y <;> cases decide (ixC a b = ixC x y) <;> cases cut.getD (ixC x y) false <;> rfl
theorem filt_map (fl : List MX) (p : MX → Bool) (hp : ∀ x, p (cx x) = p x) : (fl.filter p).map cx = (fl.map cx).filter p := by
  induction fl with
  | nil => rfl
  | cons x l ih =>
    rw [List.map_cons, List.filter_cons, List.filter_cons, hp]
    split
    · rw [List.map_cons, ih]
    · exact ih
def leftB (ps : List (Int × Int)) (c : MX) : Bool := !cutP ps c.m.fr c.m.to
/-- the loop's relation -/
def RcRel (w0 : World) (fl : List MX) (ps : List (Int × Int)) (X1 X2 X3 : Item) (R : List Item) (v7 v8 : Value) (wr : World) : Prop :=
  ∃ (k : Nat) (left : List MX) (Al : Option Addr) (cl : Nat) (P : List Item), v7 = .slice Al left.length cl ∧ v8 = .int .i64 k ∧ k ≤ fl.length ∧ left = (fl.take k).filter (leftB ps) ∧ Hp w0 wr (X1 :: X2 :: X3 :: mwI Al cl left :: (P ++ R))
theorem lf_keep {fl : List MX} {ps : List (Int × Int)} {k : Nat} (hk : k < fl.length) (h : cutP ps fl[k].m.fr fl[k].m.to = false) : (fl.take k).filter (leftB ps) ++ [fl[k]] = (fl.take (k + 1)).filter (leftB ps) := by
  rw [List.take_succ_eq_append_getElem hk, List.filter_append, List.filter_cons, if_pos (by unfold leftB; rw [h]; rfl), List.filter_nil]
theorem lf_lose {fl : List MX} {ps : List (Int × Int)} {k : Nat} (hk : k < fl.length) (h : cutP ps fl[k].m.fr fl[k].m.to = true) : (fl.take k).filter (leftB ps) = (fl.take (k + 1)).filter (leftB ps) := by
  rw [List.take_succ_eq_append_getElem hk, List.filter_append, List.filter_cons, if_neg (by unfold leftB; rw [h]; decide), List.filter_nil, List.append_nil]
theorem hq_callH {w0 : World} {L : List Item} {f : FuncId} {args : Array Value} {x : HpS w0 L} {v : Value} {P : Program} (h : Calls P f args x.val (RetH w0 L v)) : Calls P f args x.val fun e w'' => e = .returned v ∧ ∃ y : HpS w0 L, w'' = y.val :=
  h.mono fun e w' hp => ⟨hp.1, ⟨w', hp.2⟩, rfl⟩
theorem riscut_q {w0 : World} {g : Nat} {n : Int} {A : Option Addr} {k c : Nat} {B : Option Addr} {d : Nat} {ps : List (Int × Int)} {L : List Item} {a b : Int} {r : Bool} {x : HpS w0 (rfI g n A k c B ps.length d :: prI B d ps :: L)} (hl : ps.length ≤ 1000) (hr : cutP ps a b = r) :
    Calls Tryd.prog 28 #[.pointer (some ⟨g, 0, none⟩), .int .i64 a, .int .i64 b] x.val fun e w'' => e = .returned (.bool r) ∧ ∃ y : HpS w0 (rfI g n A k c B ps.length d :: prI B d ps :: L), w'' = y.val := hq_callH (riscut_h x.2 hl hr)
theorem Hp.rcIn {w0 w : World} {a x y z : Item} {L : List Item} (H : Hp w0 w (a :: x :: y :: z :: L)) : Hp w0 w (x :: z :: y :: a :: L) := (H.perm (perm_mid [a] [x, y, z] L)).perm (List.Perm.cons _ (List.Perm.swap _ _ _))
theorem Hp.rcOut {w0 w : World} {x p m l : Item} {P F Z : List Item} (H : Hp w0 w (x :: p :: m :: l :: (P ++ (F ++ Z)))) : Hp w0 w (x :: l :: p :: (F ++ (P ++ Z))) :=
  (H.sub ((((List.Sublist.refl _).cons _).cons_cons _).cons_cons _) : Hp w0 w (x :: p :: l :: (P ++ (F ++ Z)))).perm (List.Perm.cons _ ((List.Perm.swap _ _ _).trans (List.Perm.append_left [l, p] (perm_mid P F Z))))
theorem b_pair (a b : Int) : Tryd.prog.built 86 [(0, .int .i64 a), (1, .int .i64 b)] = some (prC (a, b)).toArray := by kernel_rfl
theorem pr_app (ps : List (Int × Int)) (p : Int × Int) (B : Option Addr) (d : Nat) : Item.own 86 2 B (ps.length + 1) d (rowsC prC ps ++ prC p) = prI B d (ps ++ [p]) := by
  unfold prI Item.rows
  rw [rowsC_snoc, List.length_append]
  rfl
theorem HpS.cellR {w0 : World} {L : List Item} {gF cf : Nat} {cs : List MX} (i : Nat) (hL : L[i]? = some (mwI (some ⟨gF, 0, none⟩) cf cs)) {k : Nat} (hk : k < cs.length) (j : Nat) {v : Value} (hv : (mgC cs[k].m)[j]? = some v) (y : HpS w0 L) : y.val.cell? ⟨gF, k * 27 + j, none⟩ = some v := by
  have := y.2.cellR mxC_len i hL k j hk hv
  rwa [Nat.zero_add] at this
theorem rcut_no {w0 w : World} {g : Nat} {n : Int} {cut : List Bool} {b' : Nat} {cs : List MX} {F Z : List Item} (HN : RfZ w0 w g n cut b' cs F Z) (a b : Int) (hp : pairB n a b = false) :
    Calls Tryd.prog 25 #[.pointer (some ⟨g, 0, none⟩), .int .i64 a, .int .i64 b] w (RetRf w0 g n cut (b' + 1) cs F Z (.int .i64 2)) := by
  obtain ⟨A, c, fl, B, d, ps, hcs, hZ, h200, hb, h49, hE, H⟩ := HN
  cases d1 : decide (a < 0)
  · cases d2 : decide (n ≤ a)
    · cases d3 : decide (b < 0)
      · cases d4 : decide (n ≤ b)
        · have d5 : (a == b) = true := by
            have h1 := of_decide_eq_false d1
            have h2 := of_decide_eq_false d2
            have h3 := of_decide_eq_false d3
            have h4 := of_decide_eq_false d4
            rw [beq_iff_eq]
            by_cases h : a = b
            · exact h
            · exfalso
              have : pairB n a b = true := by
                simp only [pairB, Bool.and_eq_true, decide_eq_true_eq, bne_iff_ne]
                omega
              rw [this] at hp
              cases hp
          (go_enter Tryd.func25, Tryd.ntmps25; go_wp2_with (first | ((with_reducible refine Hp.ld H ?_); refine ⟨rfl, ?_⟩; refine ⟨c_look rfl, ?_⟩; refine ⟨_, _, rfl, ?_⟩; (first | refine ⟨_, _, _, .z, ?_⟩ | refine ⟨_, _, _, .s .z, ?_⟩ | refine ⟨_, _, _, .s (.s .z), ?_⟩ | refine ⟨_, _, _, .s (.s (.s .z)), ?_⟩); refine ⟨_, rfl, ?_⟩; go_frame) | ((with_reducible refine Hp.lda H ?_); refine ⟨rfl, by kernel_rfl, ?_⟩; refine ⟨_, s_look rfl, ?_⟩; refine ⟨_, rfl, ?_⟩; (first | refine ⟨_, _, _, .z, ?_⟩ | refine ⟨_, _, _, .s .z, ?_⟩ | refine ⟨_, _, _, .s (.s .z), ?_⟩ | refine ⟨_, _, _, .s (.s (.s .z)), ?_⟩); refine ⟨rfl, ?_⟩; go_frame) | ((with_reducible refine Hp.lds H ?_); refine ⟨rfl, by kernel_rfl, ?_⟩; refine ⟨_, s_look rfl, ?_⟩; refine ⟨_, _, rfl, ?_⟩; (first | refine ⟨_, _, _, .z, ?_⟩ | refine ⟨_, _, _, .s .z, ?_⟩ | refine ⟨_, _, _, .s (.s .z), ?_⟩ | refine ⟨_, _, _, .s (.s (.s .z)), ?_⟩); (first | refine ⟨[_, _], rfl, rfl, ?_⟩ | refine ⟨[_, _, _, _], rfl, rfl, ?_⟩ | refine ⟨[_, _, _, _, _, _, _], rfl, rfl, ?_⟩ | refine ⟨[_, _, _], rfl, rfl, ?_⟩ | (fail)); go_frame) | ((with_reducible refine Hp.stv H ?_); refine ⟨rfl, ?_⟩; refine ⟨c_look rfl, ?_⟩; (first | refine ⟨.bool _, rfl, ?_⟩ | refine ⟨.int _ _, rfl, ?_⟩ | refine ⟨.string _, rfl, ?_⟩ | refine ⟨.slice _ _ _, rfl, ?_⟩ | refine ⟨.pointer _, rfl, ?_⟩); refine ⟨rfl, _, _, rfl, ?_⟩; (first | refine ⟨_, _, _, .z, ?_⟩ | refine ⟨_, _, _, .s .z, ?_⟩ | refine ⟨_, _, _, .s (.s .z), ?_⟩ | refine ⟨_, _, _, .s (.s (.s .z)), ?_⟩); refine ⟨⟨_, rfl⟩, ?_⟩; (clear H; intro w1 H; simp only [List.set] at H); go_frame) | ((with_reducible refine Hp.bdl (t := 86) (parts := [_, _]) H ?_); refine ⟨rfl, prC (a, b), b_pair _ _, ?_⟩; go_frame) | (fail)); go_ret; exact ⟨rfl, Z, fun _ h => h, A, c, fl, B, d, ps, hcs, hZ, h200, Nat.le_succ_of_le hb, h49, hE, H⟩)
        · (go_enter Tryd.func25, Tryd.ntmps25; go_wp2_with (first | ((with_reducible refine Hp.ld H ?_); refine ⟨rfl, ?_⟩; refine ⟨c_look rfl, ?_⟩; refine ⟨_, _, rfl, ?_⟩; (first | refine ⟨_, _, _, .z, ?_⟩ | refine ⟨_, _, _, .s .z, ?_⟩ | refine ⟨_, _, _, .s (.s .z), ?_⟩ | refine ⟨_, _, _, .s (.s (.s .z)), ?_⟩); refine ⟨_, rfl, ?_⟩; go_frame) | ((with_reducible refine Hp.lda H ?_); refine ⟨rfl, by kernel_rfl, ?_⟩; refine ⟨_, s_look rfl, ?_⟩; refine ⟨_, rfl, ?_⟩; (first | refine ⟨_, _, _, .z, ?_⟩ | refine ⟨_, _, _, .s .z, ?_⟩ | refine ⟨_, _, _, .s (.s .z), ?_⟩ | refine ⟨_, _, _, .s (.s (.s .z)), ?_⟩); refine ⟨rfl, ?_⟩; go_frame) | ((with_reducible refine Hp.lds H ?_); refine ⟨rfl, by kernel_rfl, ?_⟩; refine ⟨_, s_look rfl, ?_⟩; refine ⟨_, _, rfl, ?_⟩; (first | refine ⟨_, _, _, .z, ?_⟩ | refine ⟨_, _, _, .s .z, ?_⟩ | refine ⟨_, _, _, .s (.s .z), ?_⟩ | refine ⟨_, _, _, .s (.s (.s .z)), ?_⟩); (first | refine ⟨[_, _], rfl, rfl, ?_⟩ | refine ⟨[_, _, _, _], rfl, rfl, ?_⟩ | refine ⟨[_, _, _, _, _, _, _], rfl, rfl, ?_⟩ | refine ⟨[_, _, _], rfl, rfl, ?_⟩ | (fail)); go_frame) | ((with_reducible refine Hp.stv H ?_); refine ⟨rfl, ?_⟩; refine ⟨c_look rfl, ?_⟩; (first | refine ⟨.bool _, rfl, ?_⟩ | refine ⟨.int _ _, rfl, ?_⟩ | refine ⟨.string _, rfl, ?_⟩ | refine ⟨.slice _ _ _, rfl, ?_⟩ | refine ⟨.pointer _, rfl, ?_⟩); refine ⟨rfl, _, _, rfl, ?_⟩; (first | refine ⟨_, _, _, .z, ?_⟩ | refine ⟨_, _, _, .s .z, ?_⟩ | refine ⟨_, _, _, .s (.s .z), ?_⟩ | refine ⟨_, _, _, .s (.s (.s .z)), ?_⟩); refine ⟨⟨_, rfl⟩, ?_⟩; (clear H; intro w1 H; simp only [List.set] at H); go_frame) | ((with_reducible refine Hp.bdl (t := 86) (parts := [_, _]) H ?_); refine ⟨rfl, prC (a, b), b_pair _ _, ?_⟩; go_frame) | (fail)); go_ret; exact ⟨rfl, Z, fun _ h => h, A, c, fl, B, d, ps, hcs, hZ, h200, Nat.le_succ_of_le hb, h49, hE, H⟩)
      · (go_enter Tryd.func25, Tryd.ntmps25; go_wp2_with (first | ((with_reducible refine Hp.ld H ?_); refine ⟨rfl, ?_⟩; refine ⟨c_look rfl, ?_⟩; refine ⟨_, _, rfl, ?_⟩; (first | refine ⟨_, _, _, .z, ?_⟩ | refine ⟨_, _, _, .s .z, ?_⟩ | refine ⟨_, _, _, .s (.s .z), ?_⟩ | refine ⟨_, _, _, .s (.s (.s .z)), ?_⟩); refine ⟨_, rfl, ?_⟩; go_frame) | ((with_reducible refine Hp.lda H ?_); refine ⟨rfl, by kernel_rfl, ?_⟩; refine ⟨_, s_look rfl, ?_⟩; refine ⟨_, rfl, ?_⟩; (first | refine ⟨_, _, _, .z, ?_⟩ | refine ⟨_, _, _, .s .z, ?_⟩ | refine ⟨_, _, _, .s (.s .z), ?_⟩ | refine ⟨_, _, _, .s (.s (.s .z)), ?_⟩); refine ⟨rfl, ?_⟩; go_frame) | ((with_reducible refine Hp.lds H ?_); refine ⟨rfl, by kernel_rfl, ?_⟩; refine ⟨_, s_look rfl, ?_⟩; refine ⟨_, _, rfl, ?_⟩; (first | refine ⟨_, _, _, .z, ?_⟩ | refine ⟨_, _, _, .s .z, ?_⟩ | refine ⟨_, _, _, .s (.s .z), ?_⟩ | refine ⟨_, _, _, .s (.s (.s .z)), ?_⟩); (first | refine ⟨[_, _], rfl, rfl, ?_⟩ | refine ⟨[_, _, _, _], rfl, rfl, ?_⟩ | refine ⟨[_, _, _, _, _, _, _], rfl, rfl, ?_⟩ | refine ⟨[_, _, _], rfl, rfl, ?_⟩ | (fail)); go_frame) | ((with_reducible refine Hp.stv H ?_); refine ⟨rfl, ?_⟩; refine ⟨c_look rfl, ?_⟩; (first | refine ⟨.bool _, rfl, ?_⟩ | refine ⟨.int _ _, rfl, ?_⟩ | refine ⟨.string _, rfl, ?_⟩ | refine ⟨.slice _ _ _, rfl, ?_⟩ | refine ⟨.pointer _, rfl, ?_⟩); refine ⟨rfl, _, _, rfl, ?_⟩; (first | refine ⟨_, _, _, .z, ?_⟩ | refine ⟨_, _, _, .s .z, ?_⟩ | refine ⟨_, _, _, .s (.s .z), ?_⟩ | refine ⟨_, _, _, .s (.s (.s .z)), ?_⟩); refine ⟨⟨_, rfl⟩, ?_⟩; (clear H; intro w1 H; simp only [List.set] at H); go_frame) | ((with_reducible refine Hp.bdl (t := 86) (parts := [_, _]) H ?_); refine ⟨rfl, prC (a, b), b_pair _ _, ?_⟩; go_frame) | (fail)); go_ret; exact ⟨rfl, Z, fun _ h => h, A, c, fl, B, d, ps, hcs, hZ, h200, Nat.le_succ_of_le hb, h49, hE, H⟩)
    · (go_enter Tryd.func25, Tryd.ntmps25; go_wp2_with (first | ((with_reducible refine Hp.ld H ?_); refine ⟨rfl, ?_⟩; refine ⟨c_look rfl, ?_⟩; refine ⟨_, _, rfl, ?_⟩; (first | refine ⟨_, _, _, .z, ?_⟩ | refine ⟨_, _, _, .s .z, ?_⟩ | refine ⟨_, _, _, .s (.s .z), ?_⟩ | refine ⟨_, _, _, .s (.s (.s .z)), ?_⟩); refine ⟨_, rfl, ?_⟩; go_frame) | ((with_reducible refine Hp.lda H ?_); refine ⟨rfl, by kernel_rfl, ?_⟩; refine ⟨_, s_look rfl, ?_⟩; refine ⟨_, rfl, ?_⟩; (first | refine ⟨_, _, _, .z, ?_⟩ | refine ⟨_, _, _, .s .z, ?_⟩ | refine ⟨_, _, _, .s (.s .z), ?_⟩ | refine ⟨_, _, _, .s (.s (.s .z)), ?_⟩); refine ⟨rfl, ?_⟩; go_frame) | ((with_reducible refine Hp.lds H ?_); refine ⟨rfl, by kernel_rfl, ?_⟩; refine ⟨_, s_look rfl, ?_⟩; refine ⟨_, _, rfl, ?_⟩; (first | refine ⟨_, _, _, .z, ?_⟩ | refine ⟨_, _, _, .s .z, ?_⟩ | refine ⟨_, _, _, .s (.s .z), ?_⟩ | refine ⟨_, _, _, .s (.s (.s .z)), ?_⟩); (first | refine ⟨[_, _], rfl, rfl, ?_⟩ | refine ⟨[_, _, _, _], rfl, rfl, ?_⟩ | refine ⟨[_, _, _, _, _, _, _], rfl, rfl, ?_⟩ | refine ⟨[_, _, _], rfl, rfl, ?_⟩ | (fail)); go_frame) | ((with_reducible refine Hp.stv H ?_); refine ⟨rfl, ?_⟩; refine ⟨c_look rfl, ?_⟩; (first | refine ⟨.bool _, rfl, ?_⟩ | refine ⟨.int _ _, rfl, ?_⟩ | refine ⟨.string _, rfl, ?_⟩ | refine ⟨.slice _ _ _, rfl, ?_⟩ | refine ⟨.pointer _, rfl, ?_⟩); refine ⟨rfl, _, _, rfl, ?_⟩; (first | refine ⟨_, _, _, .z, ?_⟩ | refine ⟨_, _, _, .s .z, ?_⟩ | refine ⟨_, _, _, .s (.s .z), ?_⟩ | refine ⟨_, _, _, .s (.s (.s .z)), ?_⟩); refine ⟨⟨_, rfl⟩, ?_⟩; (clear H; intro w1 H; simp only [List.set] at H); go_frame) | ((with_reducible refine Hp.bdl (t := 86) (parts := [_, _]) H ?_); refine ⟨rfl, prC (a, b), b_pair _ _, ?_⟩; go_frame) | (fail)); go_ret; exact ⟨rfl, Z, fun _ h => h, A, c, fl, B, d, ps, hcs, hZ, h200, Nat.le_succ_of_le hb, h49, hE, H⟩)
  · (go_enter Tryd.func25, Tryd.ntmps25; go_wp2_with (first | ((with_reducible refine Hp.ld H ?_); refine ⟨rfl, ?_⟩; refine ⟨c_look rfl, ?_⟩; refine ⟨_, _, rfl, ?_⟩; (first | refine ⟨_, _, _, .z, ?_⟩ | refine ⟨_, _, _, .s .z, ?_⟩ | refine ⟨_, _, _, .s (.s .z), ?_⟩ | refine ⟨_, _, _, .s (.s (.s .z)), ?_⟩); refine ⟨_, rfl, ?_⟩; go_frame) | ((with_reducible refine Hp.lda H ?_); refine ⟨rfl, by kernel_rfl, ?_⟩; refine ⟨_, s_look rfl, ?_⟩; refine ⟨_, rfl, ?_⟩; (first | refine ⟨_, _, _, .z, ?_⟩ | refine ⟨_, _, _, .s .z, ?_⟩ | refine ⟨_, _, _, .s (.s .z), ?_⟩ | refine ⟨_, _, _, .s (.s (.s .z)), ?_⟩); refine ⟨rfl, ?_⟩; go_frame) | ((with_reducible refine Hp.lds H ?_); refine ⟨rfl, by kernel_rfl, ?_⟩; refine ⟨_, s_look rfl, ?_⟩; refine ⟨_, _, rfl, ?_⟩; (first | refine ⟨_, _, _, .z, ?_⟩ | refine ⟨_, _, _, .s .z, ?_⟩ | refine ⟨_, _, _, .s (.s .z), ?_⟩ | refine ⟨_, _, _, .s (.s (.s .z)), ?_⟩); (first | refine ⟨[_, _], rfl, rfl, ?_⟩ | refine ⟨[_, _, _, _], rfl, rfl, ?_⟩ | refine ⟨[_, _, _, _, _, _, _], rfl, rfl, ?_⟩ | refine ⟨[_, _, _], rfl, rfl, ?_⟩ | (fail)); go_frame) | ((with_reducible refine Hp.stv H ?_); refine ⟨rfl, ?_⟩; refine ⟨c_look rfl, ?_⟩; (first | refine ⟨.bool _, rfl, ?_⟩ | refine ⟨.int _ _, rfl, ?_⟩ | refine ⟨.string _, rfl, ?_⟩ | refine ⟨.slice _ _ _, rfl, ?_⟩ | refine ⟨.pointer _, rfl, ?_⟩); refine ⟨rfl, _, _, rfl, ?_⟩; (first | refine ⟨_, _, _, .z, ?_⟩ | refine ⟨_, _, _, .s .z, ?_⟩ | refine ⟨_, _, _, .s (.s .z), ?_⟩ | refine ⟨_, _, _, .s (.s (.s .z)), ?_⟩); refine ⟨⟨_, rfl⟩, ?_⟩; (clear H; intro w1 H; simp only [List.set] at H); go_frame) | ((with_reducible refine Hp.bdl (t := 86) (parts := [_, _]) H ?_); refine ⟨rfl, prC (a, b), b_pair _ _, ?_⟩; go_frame) | (fail)); go_ret; exact ⟨rfl, Z, fun _ h => h, A, c, fl, B, d, ps, hcs, hZ, h200, Nat.le_succ_of_le hb, h49, hE, H⟩)
set_option maxHeartbeats 4000000 in
theorem rcut_yes {w0 w : World} {g : Nat} {n : Int} {cut : List Bool} {b' : Nat} {cs : List MX} {F Z : List Item} (HN : RfZ w0 w g n cut b' cs F Z) (hb1 : b' < 1000) (hn : crowdB n = true) (a b : Int) (hp : pairB n a b = true) :
    Calls Tryd.prog 25 #[.pointer (some ⟨g, 0, none⟩), .int .i64 a, .int .i64 b] w (RetRf w0 g n (cut.set (ixC a b) true) (b' + 1) (cs.filter (fun c => !cutB n (cut.set (ixC a b) true) c.m.fr c.m.to)) F Z (.int .i64 0)) := by
  obtain ⟨A, c, fl, B, d, ps, hcs, hZ, h200, hb, h49, hE, H⟩ := HN
  have hn7 := (crowd_7 hn).2
  have hE2 := cut_more hn7 h49 hE hp
  simp only [pairB, Bool.and_eq_true, decide_eq_true_eq, bne_iff_ne] at hp
  have d1 : decide (a < 0) = false := decide_eq_false (by omega)
  have d2 : decide (n ≤ a) = false := decide_eq_false (by omega)
  have d3 : decide (b < 0) = false := decide_eq_false (by omega)
  have d4 : decide (n ≤ b) = false := decide_eq_false (by omega)
  have d5 : (a == b) = false := beq_eq_false_iff_ne.2 hp.2.2
  have hpl : ps.length ≤ 1000000 := by omega
  have hlen : cs.length = fl.length := by rw [← hcs, List.length_map]
  have hE2' := Lib.hid hE2
  have hb2 : (ps ++ [(a, b)]).length ≤ b' + 1 := by rw [List.length_append]; simp; omega
  have hpl2 : (ps ++ [(a, b)]).length ≤ 1000 := by omega
  clear hE2 hE hp
  go_enter Tryd.func25, Tryd.ntmps25
  go_wp2_with (first | ((with_reducible refine Hp.ld H ?_); refine ⟨rfl, ?_⟩; refine ⟨c_look rfl, ?_⟩; refine ⟨_, _, rfl, ?_⟩; (first | refine ⟨_, _, _, .z, ?_⟩ | refine ⟨_, _, _, .s .z, ?_⟩ | refine ⟨_, _, _, .s (.s .z), ?_⟩ | refine ⟨_, _, _, .s (.s (.s .z)), ?_⟩); refine ⟨_, rfl, ?_⟩; go_frame) | ((with_reducible refine Hp.lda H ?_); refine ⟨rfl, by kernel_rfl, ?_⟩; refine ⟨_, s_look rfl, ?_⟩; refine ⟨_, rfl, ?_⟩; (first | refine ⟨_, _, _, .z, ?_⟩ | refine ⟨_, _, _, .s .z, ?_⟩ | refine ⟨_, _, _, .s (.s .z), ?_⟩ | refine ⟨_, _, _, .s (.s (.s .z)), ?_⟩); refine ⟨rfl, ?_⟩; go_frame) | ((with_reducible refine Hp.lds H ?_); refine ⟨rfl, by kernel_rfl, ?_⟩; refine ⟨_, s_look rfl, ?_⟩; refine ⟨_, _, rfl, ?_⟩; (first | refine ⟨_, _, _, .z, ?_⟩ | refine ⟨_, _, _, .s .z, ?_⟩ | refine ⟨_, _, _, .s (.s .z), ?_⟩ | refine ⟨_, _, _, .s (.s (.s .z)), ?_⟩); (first | refine ⟨[_, _], rfl, rfl, ?_⟩ | refine ⟨[_, _, _, _], rfl, rfl, ?_⟩ | refine ⟨[_, _, _, _, _, _, _], rfl, rfl, ?_⟩ | refine ⟨[_, _, _], rfl, rfl, ?_⟩ | (fail)); go_frame) | ((with_reducible refine Hp.stv H ?_); refine ⟨rfl, ?_⟩; refine ⟨c_look rfl, ?_⟩; (first | refine ⟨.bool _, rfl, ?_⟩ | refine ⟨.int _ _, rfl, ?_⟩ | refine ⟨.string _, rfl, ?_⟩ | refine ⟨.slice _ _ _, rfl, ?_⟩ | refine ⟨.pointer _, rfl, ?_⟩); refine ⟨rfl, _, _, rfl, ?_⟩; (first | refine ⟨_, _, _, .z, ?_⟩ | refine ⟨_, _, _, .s .z, ?_⟩ | refine ⟨_, _, _, .s (.s .z), ?_⟩ | refine ⟨_, _, _, .s (.s (.s .z)), ?_⟩); refine ⟨⟨_, rfl⟩, ?_⟩; (clear H; intro w1 H; simp only [List.set] at H); go_frame) | ((with_reducible refine Hp.bdl (t := 86) (parts := [_, _]) H ?_); refine ⟨rfl, prC (a, b), b_pair _ _, ?_⟩; go_frame) | ((with_reducible refine Hp.ld H ?_); refine ⟨rfl, c_prs, _, _, rfl, _, _, _, .z, _, rfl, ?_⟩; go_frame) | ((with_reducible refine Hp.bsl1 H pr_u pr_info2 rfl rfl ?_); refine ⟨rfl, prC (a, b), rfl, rfl, ?_⟩; (clear H; intro gp w1 H); go_frame) | (at_builtin; (with_reducible refine Hp.wlAppRow H pr_u pr_info rfl rfl rfl ?_); refine ⟨3, _, _, _, _, rfl, rfl, 0, _, _, _, _, rfl, rfl, rfl, prC_one _, hpl, ?_⟩; (clear H; intro B2 d2 w1 H); simp only [List.set_cons_succ, List.set_cons_zero] at H) | ((with_reducible refine Hp.stv H ?_); refine ⟨rfl, c_prs, .slice B2 (ps.length + 1) d2, rfl, rfl, _, _, rfl, _, _, _, .s .z, ⟨_, rfl⟩, ?_⟩; (clear H; intro w1 H; simp only [List.set] at H); go_frame))
  have e := pr_app ps (a, b) B2 d2
  rw [e] at H
  obtain ⟨ps2, hps2⟩ : ∃ q, ps ++ [(a, b)] = q := ⟨_, rfl⟩
  have hpn : ps.length + 1 = ps2.length := by rw [← hps2, List.length_append]; rfl
  rw [hps2, hpn] at H
  rw [hps2] at hb2 hpl2
  have hE3 := Lib.hid (fun x y => (congrArg (fun q => cutP q x y) hps2).symm.trans (hE2'.out x y))
  clear hE2' hps2 e hpn
  have hat : RcRel w0 fl ps2 (rfI g n A fl.length c B2 ps2.length d2) (prI B2 d2 ps2) (mwI A c fl) (F ++ Z) (.slice none 0 0) (.int .i64 (0 : Nat)) w1 := ⟨0, [], none, 0, [], rfl, rfl, Nat.zero_le _, by simp, (H.tail.nilRow 34 27).rcIn⟩
  clear H
  go_loopw [7, 8] (fun v7 v8 wr => RcRel w0 fl ps2 (rfI g n A fl.length c B2 ps2.length d2) (prI B2 d2 ps2) (mwI A c fl) (F ++ Z) v7 v8 wr) (fun _ v8 _ => fl.length - (intOf v8).toNat)
  case atStart => exact hat
  case round =>
    clear hat
    obtain ⟨k, left, Al, cl, P, rfl, rfl, hkk, hlf, H⟩ := hrel
    by_cases hkl : k < fl.length
    · have hk1 : IntKind.i64.wrap ((k : Int) + 1) = ((k + 1 : Nat) : Int) := IntWalk.i64_in _ (by omega)
      have hol : left.length ≤ 1000000 := by rw [hlf]; exact Nat.le_trans (List.length_filter_le _ _) (by rw [List.length_take]; omega)
      obtain ⟨gF, rfl⟩ := H.rowsA 2 rfl (by omega)
      have hfr := HpS.cellR (L := rfI g n (some ⟨gF, 0, none⟩) fl.length c B2 ps2.length d2 :: prI B2 d2 ps2 :: mwI (some ⟨gF, 0, none⟩) c fl :: mwI Al cl left :: (P ++ (F ++ Z))) (w0 := w0) 2 rfl hkl 1 rfl
      have hto := HpS.cellR (L := rfI g n (some ⟨gF, 0, none⟩) fl.length c B2 ps2.length d2 :: prI B2 d2 ps2 :: mwI (some ⟨gF, 0, none⟩) c fl :: mwI Al cl left :: (P ++ (F ++ Z))) (w0 := w0) 2 rfl hkl 2 rfl
      cases hcut : cutP ps2 fl[k].m.fr fl[k].m.to
      · have hlf2 : left ++ [fl[k]] = (fl.take (k + 1)).filter (leftB ps2) := by rw [hlf]; exact lf_keep hkl hcut
        have HLF := Lib.hid hlf2
        clear hlf hlf2
        go_wp2_with (first | ((with_reducible refine Hp.ld H ?_); refine ⟨rfl, ?_⟩; refine ⟨c_look rfl, ?_⟩; refine ⟨_, _, rfl, ?_⟩; (first | refine ⟨_, _, _, .z, ?_⟩ | refine ⟨_, _, _, .s .z, ?_⟩ | refine ⟨_, _, _, .s (.s .z), ?_⟩ | refine ⟨_, _, _, .s (.s (.s .z)), ?_⟩); refine ⟨_, rfl, ?_⟩; go_frame) | ((with_reducible refine Hp.lda H ?_); refine ⟨rfl, by kernel_rfl, ?_⟩; refine ⟨_, s_look rfl, ?_⟩; refine ⟨_, rfl, ?_⟩; (first | refine ⟨_, _, _, .z, ?_⟩ | refine ⟨_, _, _, .s .z, ?_⟩ | refine ⟨_, _, _, .s (.s .z), ?_⟩ | refine ⟨_, _, _, .s (.s (.s .z)), ?_⟩); refine ⟨rfl, ?_⟩; go_frame) | ((with_reducible refine Hp.lds H ?_); refine ⟨rfl, by kernel_rfl, ?_⟩; refine ⟨_, s_look rfl, ?_⟩; refine ⟨_, _, rfl, ?_⟩; (first | refine ⟨_, _, _, .z, ?_⟩ | refine ⟨_, _, _, .s .z, ?_⟩ | refine ⟨_, _, _, .s (.s .z), ?_⟩ | refine ⟨_, _, _, .s (.s (.s .z)), ?_⟩); (first | refine ⟨[_, _], rfl, rfl, ?_⟩ | refine ⟨[_, _, _, _], rfl, rfl, ?_⟩ | refine ⟨[_, _, _, _, _, _, _], rfl, rfl, ?_⟩ | refine ⟨[_, _, _], rfl, rfl, ?_⟩ | (fail)); go_frame) | ((with_reducible refine Hp.stv H ?_); refine ⟨rfl, ?_⟩; refine ⟨c_look rfl, ?_⟩; (first | refine ⟨.bool _, rfl, ?_⟩ | refine ⟨.int _ _, rfl, ?_⟩ | refine ⟨.string _, rfl, ?_⟩ | refine ⟨.slice _ _ _, rfl, ?_⟩ | refine ⟨.pointer _, rfl, ?_⟩); refine ⟨rfl, _, _, rfl, ?_⟩; (first | refine ⟨_, _, _, .z, ?_⟩ | refine ⟨_, _, _, .s .z, ?_⟩ | refine ⟨_, _, _, .s (.s .z), ?_⟩ | refine ⟨_, _, _, .s (.s (.s .z)), ?_⟩); refine ⟨⟨_, rfl⟩, ?_⟩; (clear H; intro w1 H; simp only [List.set] at H); go_frame) | ((with_reducible refine Hp.bdl (t := 86) (parts := [_, _]) H ?_); refine ⟨rfl, prC (a, b), b_pair _ _, ?_⟩; go_frame) | ((with_reducible refine Hp.ldRow (f := mxC) mxC_len H ?_); refine ⟨rfl, by kernel_rfl, s_Msg, _, _, rfl, 2, _, _, _, rfl, k, rfl, hkl, ?_⟩; go_frame) | ((with_reducible refine Hp.bsl1 H ms_u ms_info2 rfl rfl ?_); refine ⟨rfl, mgC fl[k].m, rfl, rfl, ?_⟩; (clear H; intro gb w1 H); go_frame) | (at_builtin; (with_reducible refine Hp.wlAppRow H ms_u ms_info rfl rfl rfl ?_); refine ⟨4, _, _, _, _, rfl, rfl, 0, _, _, _, _, rfl, rfl, rfl, mgC_one _, hol, ?_⟩; (clear H; intro A3 c3 w1 H); simp only [List.set_cons_succ, List.set_cons_zero] at H))
        ((with_reducible refine wp_region_hpK H (by kernel_rfl) (by kernel_rfl) ?_); intro _ KQ hKQ; (repeat (first | go_big_quiet_skip | ((with_reducible refine hq_ld ?_); refine ⟨rfl, ?_⟩; refine ⟨c_look rfl, ?_⟩; refine ⟨_, _, rfl, ?_⟩; (first | refine ⟨_, _, _, .z, ?_⟩ | refine ⟨_, _, _, .s .z, ?_⟩ | refine ⟨_, _, _, .s (.s .z), ?_⟩ | refine ⟨_, _, _, .s (.s (.s .z)), ?_⟩); refine ⟨_, rfl, ?_⟩; go_frame) | ((with_reducible refine hq_lda ?_); refine ⟨rfl, by kernel_rfl, ?_⟩; refine ⟨_, s_look rfl, ?_⟩; refine ⟨_, rfl, ?_⟩; (first | refine ⟨_, _, _, .z, ?_⟩ | refine ⟨_, _, _, .s .z, ?_⟩ | refine ⟨_, _, _, .s (.s .z), ?_⟩ | refine ⟨_, _, _, .s (.s (.s .z)), ?_⟩); refine ⟨rfl, ?_⟩; go_frame) | ((with_reducible refine hq_lds ?_); refine ⟨rfl, by kernel_rfl, ?_⟩; refine ⟨_, s_look rfl, ?_⟩; refine ⟨_, _, rfl, ?_⟩; (first | refine ⟨_, _, _, .z, ?_⟩ | refine ⟨_, _, _, .s .z, ?_⟩ | refine ⟨_, _, _, .s (.s .z), ?_⟩ | refine ⟨_, _, _, .s (.s (.s .z)), ?_⟩); (first | refine ⟨[_, _], rfl, rfl, ?_⟩ | refine ⟨[_, _, _, _], rfl, rfl, ?_⟩ | refine ⟨[_, _, _, _, _, _, _], rfl, rfl, ?_⟩ | refine ⟨[_, _, _], rfl, rfl, ?_⟩ | (fail)); go_frame) | ((with_reducible refine hq_bdl ?_); (fail); go_frame) | ((with_reducible refine hq_ldW ?_); refine ⟨rfl, by kernel_rfl, _, rfl, _, hfr, ?_⟩; go_frame) | ((with_reducible refine hq_ldW ?_); refine ⟨rfl, by kernel_rfl, _, rfl, _, hto, ?_⟩; go_frame) | go_big_quiet_step ((with_reducible exact riscut_q hpl2 hcut)))); (with_reducible refine wpQuiet_nil (hKQ _ ?_)); clear hKQ; clear KQ H; intro w1 H)
        go_wp2_with (first | ((with_reducible refine Hp.ld H ?_); refine ⟨rfl, ?_⟩; refine ⟨c_look rfl, ?_⟩; refine ⟨_, _, rfl, ?_⟩; (first | refine ⟨_, _, _, .z, ?_⟩ | refine ⟨_, _, _, .s .z, ?_⟩ | refine ⟨_, _, _, .s (.s .z), ?_⟩ | refine ⟨_, _, _, .s (.s (.s .z)), ?_⟩); refine ⟨_, rfl, ?_⟩; go_frame) | ((with_reducible refine Hp.lda H ?_); refine ⟨rfl, by kernel_rfl, ?_⟩; refine ⟨_, s_look rfl, ?_⟩; refine ⟨_, rfl, ?_⟩; (first | refine ⟨_, _, _, .z, ?_⟩ | refine ⟨_, _, _, .s .z, ?_⟩ | refine ⟨_, _, _, .s (.s .z), ?_⟩ | refine ⟨_, _, _, .s (.s (.s .z)), ?_⟩); refine ⟨rfl, ?_⟩; go_frame) | ((with_reducible refine Hp.lds H ?_); refine ⟨rfl, by kernel_rfl, ?_⟩; refine ⟨_, s_look rfl, ?_⟩; refine ⟨_, _, rfl, ?_⟩; (first | refine ⟨_, _, _, .z, ?_⟩ | refine ⟨_, _, _, .s .z, ?_⟩ | refine ⟨_, _, _, .s (.s .z), ?_⟩ | refine ⟨_, _, _, .s (.s (.s .z)), ?_⟩); (first | refine ⟨[_, _], rfl, rfl, ?_⟩ | refine ⟨[_, _, _, _], rfl, rfl, ?_⟩ | refine ⟨[_, _, _, _, _, _, _], rfl, rfl, ?_⟩ | refine ⟨[_, _, _], rfl, rfl, ?_⟩ | (fail)); go_frame) | ((with_reducible refine Hp.stv H ?_); refine ⟨rfl, ?_⟩; refine ⟨c_look rfl, ?_⟩; (first | refine ⟨.bool _, rfl, ?_⟩ | refine ⟨.int _ _, rfl, ?_⟩ | refine ⟨.string _, rfl, ?_⟩ | refine ⟨.slice _ _ _, rfl, ?_⟩ | refine ⟨.pointer _, rfl, ?_⟩); refine ⟨rfl, _, _, rfl, ?_⟩; (first | refine ⟨_, _, _, .z, ?_⟩ | refine ⟨_, _, _, .s .z, ?_⟩ | refine ⟨_, _, _, .s (.s .z), ?_⟩ | refine ⟨_, _, _, .s (.s (.s .z)), ?_⟩); refine ⟨⟨_, rfl⟩, ?_⟩; (clear H; intro w1 H; simp only [List.set] at H); go_frame) | ((with_reducible refine Hp.bdl (t := 86) (parts := [_, _]) H ?_); refine ⟨rfl, prC (a, b), b_pair _ _, ?_⟩; go_frame) | ((with_reducible refine Hp.ldRow (f := mxC) mxC_len H ?_); refine ⟨rfl, by kernel_rfl, s_Msg, _, _, rfl, 2, _, _, _, rfl, k, rfl, hkl, ?_⟩; go_frame) | ((with_reducible refine Hp.bsl1 H ms_u ms_info2 rfl rfl ?_); refine ⟨rfl, mgC fl[k].m, rfl, rfl, ?_⟩; (clear H; intro gb w1 H); go_frame) | (at_builtin; (with_reducible refine Hp.wlAppRow H ms_u ms_info rfl rfl rfl ?_); refine ⟨4, _, _, _, _, rfl, rfl, 0, _, _, _, _, rfl, rfl, rfl, mgC_one _, hol, ?_⟩; (clear H; intro A3 c3 w1 H); simp only [List.set_cons_succ, List.set_cons_zero] at H))
        have e : Item.own 34 27 A3 (left.length + 1) c3 (rowsC mxC left ++ mgC fl[k].m) = mwI A3 c3 (left ++ [fl[k]]) := mw_app left fl[k] A3 c3
        rw [e] at H
        go_roundw
        case rel => exact ⟨k + 1, left ++ [fl[k]], A3, c3, _ :: P, by rw [List.length_append]; rfl, rfl, hkl, HLF.out, H.mid4 [_]⟩
        case measure => show fl.length - (k + 1) < fl.length - k; omega
      · have hlf2 : left = (fl.take (k + 1)).filter (leftB ps2) := by rw [hlf]; exact lf_lose hkl hcut
        have HLF := Lib.hid hlf2
        clear hlf hlf2
        go_wp2_with (first | ((with_reducible refine Hp.ld H ?_); refine ⟨rfl, ?_⟩; refine ⟨c_look rfl, ?_⟩; refine ⟨_, _, rfl, ?_⟩; (first | refine ⟨_, _, _, .z, ?_⟩ | refine ⟨_, _, _, .s .z, ?_⟩ | refine ⟨_, _, _, .s (.s .z), ?_⟩ | refine ⟨_, _, _, .s (.s (.s .z)), ?_⟩); refine ⟨_, rfl, ?_⟩; go_frame) | ((with_reducible refine Hp.lda H ?_); refine ⟨rfl, by kernel_rfl, ?_⟩; refine ⟨_, s_look rfl, ?_⟩; refine ⟨_, rfl, ?_⟩; (first | refine ⟨_, _, _, .z, ?_⟩ | refine ⟨_, _, _, .s .z, ?_⟩ | refine ⟨_, _, _, .s (.s .z), ?_⟩ | refine ⟨_, _, _, .s (.s (.s .z)), ?_⟩); refine ⟨rfl, ?_⟩; go_frame) | ((with_reducible refine Hp.lds H ?_); refine ⟨rfl, by kernel_rfl, ?_⟩; refine ⟨_, s_look rfl, ?_⟩; refine ⟨_, _, rfl, ?_⟩; (first | refine ⟨_, _, _, .z, ?_⟩ | refine ⟨_, _, _, .s .z, ?_⟩ | refine ⟨_, _, _, .s (.s .z), ?_⟩ | refine ⟨_, _, _, .s (.s (.s .z)), ?_⟩); (first | refine ⟨[_, _], rfl, rfl, ?_⟩ | refine ⟨[_, _, _, _], rfl, rfl, ?_⟩ | refine ⟨[_, _, _, _, _, _, _], rfl, rfl, ?_⟩ | refine ⟨[_, _, _], rfl, rfl, ?_⟩ | (fail)); go_frame) | ((with_reducible refine Hp.stv H ?_); refine ⟨rfl, ?_⟩; refine ⟨c_look rfl, ?_⟩; (first | refine ⟨.bool _, rfl, ?_⟩ | refine ⟨.int _ _, rfl, ?_⟩ | refine ⟨.string _, rfl, ?_⟩ | refine ⟨.slice _ _ _, rfl, ?_⟩ | refine ⟨.pointer _, rfl, ?_⟩); refine ⟨rfl, _, _, rfl, ?_⟩; (first | refine ⟨_, _, _, .z, ?_⟩ | refine ⟨_, _, _, .s .z, ?_⟩ | refine ⟨_, _, _, .s (.s .z), ?_⟩ | refine ⟨_, _, _, .s (.s (.s .z)), ?_⟩); refine ⟨⟨_, rfl⟩, ?_⟩; (clear H; intro w1 H; simp only [List.set] at H); go_frame) | ((with_reducible refine Hp.bdl (t := 86) (parts := [_, _]) H ?_); refine ⟨rfl, prC (a, b), b_pair _ _, ?_⟩; go_frame) | (fail))
        ((with_reducible refine wp_region_hpK H (by kernel_rfl) (by kernel_rfl) ?_); intro _ KQ hKQ; (repeat (first | go_big_quiet_skip | ((with_reducible refine hq_ld ?_); refine ⟨rfl, ?_⟩; refine ⟨c_look rfl, ?_⟩; refine ⟨_, _, rfl, ?_⟩; (first | refine ⟨_, _, _, .z, ?_⟩ | refine ⟨_, _, _, .s .z, ?_⟩ | refine ⟨_, _, _, .s (.s .z), ?_⟩ | refine ⟨_, _, _, .s (.s (.s .z)), ?_⟩); refine ⟨_, rfl, ?_⟩; go_frame) | ((with_reducible refine hq_lda ?_); refine ⟨rfl, by kernel_rfl, ?_⟩; refine ⟨_, s_look rfl, ?_⟩; refine ⟨_, rfl, ?_⟩; (first | refine ⟨_, _, _, .z, ?_⟩ | refine ⟨_, _, _, .s .z, ?_⟩ | refine ⟨_, _, _, .s (.s .z), ?_⟩ | refine ⟨_, _, _, .s (.s (.s .z)), ?_⟩); refine ⟨rfl, ?_⟩; go_frame) | ((with_reducible refine hq_lds ?_); refine ⟨rfl, by kernel_rfl, ?_⟩; refine ⟨_, s_look rfl, ?_⟩; refine ⟨_, _, rfl, ?_⟩; (first | refine ⟨_, _, _, .z, ?_⟩ | refine ⟨_, _, _, .s .z, ?_⟩ | refine ⟨_, _, _, .s (.s .z), ?_⟩ | refine ⟨_, _, _, .s (.s (.s .z)), ?_⟩); (first | refine ⟨[_, _], rfl, rfl, ?_⟩ | refine ⟨[_, _, _, _], rfl, rfl, ?_⟩ | refine ⟨[_, _, _, _, _, _, _], rfl, rfl, ?_⟩ | refine ⟨[_, _, _], rfl, rfl, ?_⟩ | (fail)); go_frame) | ((with_reducible refine hq_bdl ?_); (fail); go_frame) | ((with_reducible refine hq_ldW ?_); refine ⟨rfl, by kernel_rfl, _, rfl, _, hfr, ?_⟩; go_frame) | ((with_reducible refine hq_ldW ?_); refine ⟨rfl, by kernel_rfl, _, rfl, _, hto, ?_⟩; go_frame) | go_big_quiet_step ((with_reducible exact riscut_q hpl2 hcut)))); (with_reducible refine wpQuiet_nil (hKQ _ ?_)); clear hKQ; clear KQ H; intro w1 H)
        go_wp2_with (first | ((with_reducible refine Hp.ld H ?_); refine ⟨rfl, ?_⟩; refine ⟨c_look rfl, ?_⟩; refine ⟨_, _, rfl, ?_⟩; (first | refine ⟨_, _, _, .z, ?_⟩ | refine ⟨_, _, _, .s .z, ?_⟩ | refine ⟨_, _, _, .s (.s .z), ?_⟩ | refine ⟨_, _, _, .s (.s (.s .z)), ?_⟩); refine ⟨_, rfl, ?_⟩; go_frame) | ((with_reducible refine Hp.lda H ?_); refine ⟨rfl, by kernel_rfl, ?_⟩; refine ⟨_, s_look rfl, ?_⟩; refine ⟨_, rfl, ?_⟩; (first | refine ⟨_, _, _, .z, ?_⟩ | refine ⟨_, _, _, .s .z, ?_⟩ | refine ⟨_, _, _, .s (.s .z), ?_⟩ | refine ⟨_, _, _, .s (.s (.s .z)), ?_⟩); refine ⟨rfl, ?_⟩; go_frame) | ((with_reducible refine Hp.lds H ?_); refine ⟨rfl, by kernel_rfl, ?_⟩; refine ⟨_, s_look rfl, ?_⟩; refine ⟨_, _, rfl, ?_⟩; (first | refine ⟨_, _, _, .z, ?_⟩ | refine ⟨_, _, _, .s .z, ?_⟩ | refine ⟨_, _, _, .s (.s .z), ?_⟩ | refine ⟨_, _, _, .s (.s (.s .z)), ?_⟩); (first | refine ⟨[_, _], rfl, rfl, ?_⟩ | refine ⟨[_, _, _, _], rfl, rfl, ?_⟩ | refine ⟨[_, _, _, _, _, _, _], rfl, rfl, ?_⟩ | refine ⟨[_, _, _], rfl, rfl, ?_⟩ | (fail)); go_frame) | ((with_reducible refine Hp.stv H ?_); refine ⟨rfl, ?_⟩; refine ⟨c_look rfl, ?_⟩; (first | refine ⟨.bool _, rfl, ?_⟩ | refine ⟨.int _ _, rfl, ?_⟩ | refine ⟨.string _, rfl, ?_⟩ | refine ⟨.slice _ _ _, rfl, ?_⟩ | refine ⟨.pointer _, rfl, ?_⟩); refine ⟨rfl, _, _, rfl, ?_⟩; (first | refine ⟨_, _, _, .z, ?_⟩ | refine ⟨_, _, _, .s .z, ?_⟩ | refine ⟨_, _, _, .s (.s .z), ?_⟩ | refine ⟨_, _, _, .s (.s (.s .z)), ?_⟩); refine ⟨⟨_, rfl⟩, ?_⟩; (clear H; intro w1 H; simp only [List.set] at H); go_frame) | ((with_reducible refine Hp.bdl (t := 86) (parts := [_, _]) H ?_); refine ⟨rfl, prC (a, b), b_pair _ _, ?_⟩; go_frame) | (fail))
        go_roundw
        case rel => exact ⟨k + 1, left, Al, cl, P, rfl, rfl, hkl, HLF.out, H⟩
        case measure => show fl.length - (k + 1) < fl.length - k; omega
    · obtain rfl : k = fl.length := by omega
      have hjj : decide ((fl.length : Int) < (fl.length : Int)) = false := decide_eq_false (by omega)
      rw [List.take_length] at hlf
      have HLF := Lib.hid hlf
      clear hlf
      go_wp2_with (first | ((with_reducible refine Hp.ld H ?_); refine ⟨rfl, ?_⟩; refine ⟨c_look rfl, ?_⟩; refine ⟨_, _, rfl, ?_⟩; (first | refine ⟨_, _, _, .z, ?_⟩ | refine ⟨_, _, _, .s .z, ?_⟩ | refine ⟨_, _, _, .s (.s .z), ?_⟩ | refine ⟨_, _, _, .s (.s (.s .z)), ?_⟩); refine ⟨_, rfl, ?_⟩; go_frame) | ((with_reducible refine Hp.lda H ?_); refine ⟨rfl, by kernel_rfl, ?_⟩; refine ⟨_, s_look rfl, ?_⟩; refine ⟨_, rfl, ?_⟩; (first | refine ⟨_, _, _, .z, ?_⟩ | refine ⟨_, _, _, .s .z, ?_⟩ | refine ⟨_, _, _, .s (.s .z), ?_⟩ | refine ⟨_, _, _, .s (.s (.s .z)), ?_⟩); refine ⟨rfl, ?_⟩; go_frame) | ((with_reducible refine Hp.lds H ?_); refine ⟨rfl, by kernel_rfl, ?_⟩; refine ⟨_, s_look rfl, ?_⟩; refine ⟨_, _, rfl, ?_⟩; (first | refine ⟨_, _, _, .z, ?_⟩ | refine ⟨_, _, _, .s .z, ?_⟩ | refine ⟨_, _, _, .s (.s .z), ?_⟩ | refine ⟨_, _, _, .s (.s (.s .z)), ?_⟩); (first | refine ⟨[_, _], rfl, rfl, ?_⟩ | refine ⟨[_, _, _, _], rfl, rfl, ?_⟩ | refine ⟨[_, _, _, _, _, _, _], rfl, rfl, ?_⟩ | refine ⟨[_, _, _], rfl, rfl, ?_⟩ | (fail)); go_frame) | ((with_reducible refine Hp.stv H ?_); refine ⟨rfl, ?_⟩; refine ⟨c_look rfl, ?_⟩; (first | refine ⟨.bool _, rfl, ?_⟩ | refine ⟨.int _ _, rfl, ?_⟩ | refine ⟨.string _, rfl, ?_⟩ | refine ⟨.slice _ _ _, rfl, ?_⟩ | refine ⟨.pointer _, rfl, ?_⟩); refine ⟨rfl, _, _, rfl, ?_⟩; (first | refine ⟨_, _, _, .z, ?_⟩ | refine ⟨_, _, _, .s .z, ?_⟩ | refine ⟨_, _, _, .s (.s .z), ?_⟩ | refine ⟨_, _, _, .s (.s (.s .z)), ?_⟩); refine ⟨⟨_, rfl⟩, ?_⟩; (clear H; intro w1 H; simp only [List.set] at H); go_frame) | ((with_reducible refine Hp.bdl (t := 86) (parts := [_, _]) H ?_); refine ⟨rfl, prC (a, b), b_pair _ _, ?_⟩; go_frame) | (fail))
      go_ret
      have hp : leftB ps2 = fun c => !cutB n (cut.set (ixC a b) true) c.m.fr c.m.to := by
        funext c
        unfold leftB
        rw [hE3.out]
      refine ⟨rfl, P ++ Z, sub_app P Z, Al, cl, left, B2, d2, ps2, ?_, ?_, ?_, hb2, by rw [List.length_set]; exact h49, hE3.out, ?_⟩
      · rw [HLF.out, filt_map fl (leftB ps2) (fun x => rfl), hcs, hp]
      · rw [HLF.out]
        exact (hZ.sub (fun x hx => (List.mem_filter.1 hx).1)).mono (sub_app P Z)
      · exact Nat.le_trans (List.length_filter_le _ _) h200
      · exact H.rcOut
theorem rcut_o {w0 w : World} {g : Nat} {n : Int} {cut : List Bool} {b' : Nat} {cs : List MX} {F Z : List Item} (HN : RfZ w0 w g n cut b' cs F Z) (hb1 : b' < 1000) (hn : crowdB n = true) (a b : Int) :
    Calls Tryd.prog 25 #[.pointer (some ⟨g, 0, none⟩), .int .i64 a, .int .i64 b] w (RetRf w0 g n (ncutC n cut a b) (b' + 1) (ncutL n cut cs a b) F Z (.int .i64 (ncutR n a b))) := by
  unfold ncutC ncutL ncutR
  cases hp : pairB n a b
  · rw [if_neg Bool.false_ne_true, if_neg Bool.false_ne_true, if_neg Bool.false_ne_true]
    exact rcut_no HN a b hp
  · rw [if_pos rfl, if_pos rfl, if_pos rfl]
    exact rcut_yes HN hb1 hn a b hp
end Go.Proofs.YtiieakndjheknaaDoor
