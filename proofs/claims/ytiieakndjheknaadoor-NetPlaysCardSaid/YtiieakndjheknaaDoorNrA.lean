/-
  THE REFERENCE'S NET (sextonref28): what it holds; THE WALKS OF New, IsCut, place, Heal.
-/
import Derived.Test.YtiieakndjheknaaDoorNtQ
import Derived.Test.YtiieakndjheknaaDoorNtM
import Derived.Test.YtiieakndjheknaaDoorMsgK
namespace Go.Proofs.YtiieakndjheknaaDoor
set_option maxRecDepth 100000
open Go.RowKit
set_option linter.unusedVariables false
set_option linter.unusedSimpArgs false
def prC (p : Int × Int) : List Value := [.int .i64 p.1, .int .i64 p.2]
theorem prC_len (p : Int × Int) : (prC p).length = 2 := rfl
theorem prC_one (p : Int × Int) : ∀ u ∈ prC p, u.oneCell' = true := by
  intro u hu
  simp only [prC, List.mem_cons, List.not_mem_nil, or_false] at hu
  rcases hu with rfl | rfl <;> rfl
def rfC (n : Int) (A : Option Addr) (k c : Nat) (B : Option Addr) (j d : Nat) : List Value := [.int .i64 n, .slice A k c, .slice B j d]
abbrev rfI (g : Nat) (n : Int) (A : Option Addr) (k c : Nat) (B : Option Addr) (j d : Nat) : Item := .blk g 69 (rfC n A k c B j d)
abbrev prI (B : Option Addr) (d : Nat) (ps : List (Int × Int)) : Item := .rows 86 2 prC B d ps
def prM (a b : Int) (p : Int × Int) : Bool := ((p.1 == a) && (p.2 == b)) || ((p.1 == b) && (p.2 == a))
def cutP (ps : List (Int × Int)) (a b : Int) : Bool := ps.any (prM a b)
theorem pr_u : Tryd.prog.underlying 67 = some (.slice 86) := Tryd.underlying67
theorem s_Pr : sizeT Tryd.prog 86 = some 2 := by kernel_rfl
theorem z_Pr : zeroC Tryd.prog 86 = some (prC (0, 0)).toArray := by kernel_rfl
theorem pr_info : (Tryd.prog.info? 86).map (fun i => (i.zero, i.size, i.bytes)) = some (some (.agg (prC (0, 0)).toArray), 2, 16) := by kernel_rfl
theorem pr_info2 : (Tryd.prog.info? 86).map (fun i => (i.zero.isSome, i.size)) = some (true, 2) := by kernel_rfl
/-- a net of the reference that lies at g; the items F, and whatever else (Z), beside it -/
def RfZ (w0 w : World) (g : Nat) (n : Int) (cut : List Bool) (b : Nat) (cs : List MX) (F Z : List Item) : Prop :=
  ∃ A c fl B d ps, fl.map cx = cs ∧ Held Z fl ∧ cs.length ≤ 200 ∧ ps.length ≤ b ∧ cut.length = 49 ∧ (∀ x y, cutP ps x y = cutB n cut x y) ∧ Hp w0 w (rfI g n A fl.length c B ps.length d :: mwI A c fl :: prI B d ps :: (F ++ Z))
def RetRf (w0 : World) (g : Nat) (n : Int) (cut : List Bool) (b : Nat) (cs : List MX) (F Z : List Item) (v : Value) (e : Ending) (w' : World) : Prop :=
  e = .returned v ∧ ∃ Z', Z ⊆ Z' ∧ RfZ w0 w' g n cut b cs F Z'
theorem b_rnet (n : Int) : Tryd.prog.built 69 [(0, .int .i64 n)] = some (rfC n none 0 0 none 0 0).toArray := by kernel_rfl
theorem rnew_no (n : Int) (w : World) (h : crowdB n = false) : Calls Tryd.prog 19 #[.int .i64 n] w (RetV w (.pointer none)) := by
  have H := Hp.nil w
  go_enter Tryd.func19, Tryd.ntmps19
  go_wp2_with (first | ((with_reducible refine Hp.box H ?_); (first | refine ⟨rfl, [.pointer _], rfl, ?_⟩ | refine ⟨rfl, [.int _ _], rfl, ?_⟩ | refine ⟨rfl, [.slice _ _ _], rfl, ?_⟩ | refine ⟨rfl, [.bool _], rfl, ?_⟩ | refine ⟨rfl, [.string _], rfl, ?_⟩ | refine ⟨rfl, _, rfl, ?_⟩); (clear H; intro g1 w1 H); go_frame) | ((with_reducible refine Hp.bdl H ?_); (fail); go_frame) | ((with_reducible refine (rcrowd_v h _).mono ?_); rintro _ w1 ⟨rfl, hb⟩; replace H := H.call hb; clear hb))
  go_ret
  exact ⟨rfl, H.below⟩
def RetRnew (n : Int) (w : World) (e : Ending) (w' : World) : Prop := ∃ g, e = .returned (.pointer (some ⟨g, 0, none⟩)) ∧ Hp w w' [rfI g n none 0 0 none 0 0]
theorem rnew_yes (n : Int) (w : World) (h : crowdB n = true) : Calls Tryd.prog 19 #[.int .i64 n] w (RetRnew n w) := by
  have H := Hp.nil w
  go_enter Tryd.func19, Tryd.ntmps19
  go_wp2_with (first | ((with_reducible refine Hp.box H ?_); (first | refine ⟨rfl, rfC n none 0 0 none 0 0, rfl, ?_⟩); (clear H; intro g1 w1 H); go_frame) | ((with_reducible refine Hp.bdl (t := 69) (parts := [_]) H ?_); refine ⟨rfl, rfC n none 0 0 none 0 0, b_rnet _, ?_⟩; go_frame) | ((with_reducible refine (rcrowd_v h _).mono ?_); rintro _ w1 ⟨rfl, hb⟩; replace H := H.call hb; clear hb))
  go_ret
  exact ⟨g1, rfl, H⟩
theorem Hp.ri {w0 w : World} {x y : Item} (P P2 : List Item) {L : List Item} (H : Hp w0 w (P ++ (x :: y :: (P2 ++ L)))) : Hp w0 w (x :: y :: L) := (H.cut P).sub (((List.sublist_append_right P2 L).cons_cons _).cons_cons _)
/-- the loop's relation -/
def RiRel (w0 : World) (a b : Int) (ps : List (Int × Int)) (X1 X3 : Item) (L : List Item) (v7 : Value) (wr : World) : Prop :=
  ∃ (k : Nat) (P : List Item), v7 = .int .i64 k ∧ k ≤ ps.length ∧ (ps.take k).any (prM a b) = false ∧ Hp w0 wr (X1 :: X3 :: (P ++ L))
theorem any_take_next {a b : Int} {ps : List (Int × Int)} {k : Nat} (hk : k < ps.length) (h : (ps.take k).any (prM a b) = false) (h2 : prM a b ps[k] = false) : (ps.take (k + 1)).any (prM a b) = false := by
  rw [List.take_succ_eq_append_getElem hk, List.any_append, h]
  simp [h2]
theorem any_of_get {a b : Int} {ps : List (Int × Int)} {k : Nat} (hk : k < ps.length) (h2 : prM a b ps[k] = true) : cutP ps a b = true := List.any_eq_true.2 ⟨ps[k], List.getElem_mem hk, h2⟩
set_option maxHeartbeats 2000000 in
theorem riscut_h {w0 w : World} {g : Nat} {n : Int} {A : Option Addr} {k c : Nat} {B : Option Addr} {d : Nat} {ps : List (Int × Int)} {L : List Item} {a b : Int} {r : Bool} (H : Hp w0 w (rfI g n A k c B ps.length d :: prI B d ps :: L)) (hl : ps.length ≤ 1000) (hr : cutP ps a b = r) :
    Calls Tryd.prog 28 #[.pointer (some ⟨g, 0, none⟩), .int .i64 a, .int .i64 b] w (RetH w0 (rfI g n A k c B ps.length d :: prI B d ps :: L) (.bool r)) := by
  have HR := Lib.hid hr
  clear hr
  have hat : RiRel w0 a b ps (rfI g n A k c B ps.length d) (prI B d ps) L (.int .i64 (0 : Nat)) w := ⟨0, [], rfl, Nat.zero_le _, by simp, H⟩
  clear H
  go_enter Tryd.func28, Tryd.ntmps28
  go_wp2_with fail
  go_loopw [7] (fun v wr => RiRel w0 a b ps (rfI g n A k c B ps.length d) (prI B d ps) L v wr) (fun v _ => ps.length - (intOf v).toNat)
  case atStart => exact hat
  case round =>
    clear hat
    obtain ⟨k, P, rfl, hk, hno, H⟩ := hrel
    by_cases hlt : k < ps.length
    · have hk1 : IntKind.i64.wrap ((k : Int) + 1) = ((k + 1 : Nat) : Int) := IntWalk.i64_in _ (by omega)
      obtain ⟨gB, rfl⟩ := H.rowsA 1 rfl (by omega)
      have HNO := Lib.hid hno
      clear hno
      have hq := fun (h : prM a b ps[k] = false) => any_take_next hlt HNO.out h
      have hy := fun (h : prM a b ps[k] = true) => (HR.out.symm.trans (any_of_get hlt h))
      have HQ := Lib.hid hq
      have HY := Lib.hid hy
      clear hq hy
      have hM : prM a b ps[k] = (((ps[k].1 == a) && (ps[k].2 == b)) || ((ps[k].1 == b) && (ps[k].2 == a))) := rfl
      have HM := Lib.hid hM
      clear hM
      have hch : ((ps[k].1 == a) = true ∧ (ps[k].2 == b) = true) ∨ ((ps[k].1 == a) = true ∧ (ps[k].2 == b) = false ∧ (ps[k].1 == b) = true ∧ (ps[k].2 == a) = true) ∨ ((ps[k].1 == a) = true ∧ (ps[k].2 == b) = false ∧ (ps[k].1 == b) = true ∧ (ps[k].2 == a) = false) ∨ ((ps[k].1 == a) = true ∧ (ps[k].2 == b) = false ∧ (ps[k].1 == b) = false) ∨ ((ps[k].1 == a) = false ∧ (ps[k].1 == b) = true ∧ (ps[k].2 == a) = true) ∨ ((ps[k].1 == a) = false ∧ (ps[k].1 == b) = true ∧ (ps[k].2 == a) = false) ∨ ((ps[k].1 == a) = false ∧ (ps[k].1 == b) = false) := by
        generalize (ps[k].1 == a) = u1
        generalize (ps[k].2 == b) = u2
        generalize (ps[k].1 == b) = u3
        generalize (ps[k].2 == a) = u4
        cases u1 <;> cases u2 <;> cases u3 <;> cases u4 <;> simp
      rcases hch with ⟨d1, d2⟩ | ⟨d1, d2, d3, d4⟩ | ⟨d1, d2, d3, d4⟩ | ⟨d1, d2, d3⟩ | ⟨d1, d3, d4⟩ | ⟨d1, d3, d4⟩ | ⟨d1, d3⟩
      · have hr := HY.out (by rw [HM.out, d1, d2]; rfl)
        go_wp2_with (first | (fail) | (fail) | (fail) | (fail) | (fail) | (fail) | ((with_reducible refine Hp.ld H ?_); refine ⟨rfl, c_prs, _, _, rfl, _, _, _, .z, _, rfl, ?_⟩; go_frame) | ((with_reducible refine Hp.ldRow (f := prC) prC_len H ?_); refine ⟨rfl, by kernel_rfl, s_Pr, _, _, rfl, 1, _, _, _, rfl, k, rfl, hlt, ?_⟩; go_frame) | ((with_reducible refine Hp.allo (ty := 86) H ?_); refine ⟨rfl, ?_⟩; refine ⟨_, z_Pr, ?_⟩; (clear H; intro g8 w1 H); go_frame) | ((with_reducible refine Hp.sta H ?_); refine ⟨rfl, ?_⟩; refine ⟨_, s_Pr, ?_⟩; refine ⟨_, rfl, prC ps[k], rfl, rfl, ?_⟩; refine ⟨_, _, _, .z, ?_⟩; refine ⟨rfl, rfl, ?_⟩; (clear H; intro w1 H; simp only [List.set] at H); go_frame) | ((with_reducible refine Hp.ld H ?_); refine ⟨rfl, c_int, _, _, rfl, _, _, _, .z, _, rfl, ?_⟩; go_frame))
        go_ret
        exact ⟨ret_bool hr.symm, Hp.ri [_] P H⟩
      · have hr := HY.out (by rw [HM.out, d1, d2, d3, d4]; rfl)
        go_wp2_with (first | (fail) | (fail) | (fail) | (fail) | (fail) | (fail) | ((with_reducible refine Hp.ld H ?_); refine ⟨rfl, c_prs, _, _, rfl, _, _, _, .z, _, rfl, ?_⟩; go_frame) | ((with_reducible refine Hp.ldRow (f := prC) prC_len H ?_); refine ⟨rfl, by kernel_rfl, s_Pr, _, _, rfl, 1, _, _, _, rfl, k, rfl, hlt, ?_⟩; go_frame) | ((with_reducible refine Hp.allo (ty := 86) H ?_); refine ⟨rfl, ?_⟩; refine ⟨_, z_Pr, ?_⟩; (clear H; intro g8 w1 H); go_frame) | ((with_reducible refine Hp.sta H ?_); refine ⟨rfl, ?_⟩; refine ⟨_, s_Pr, ?_⟩; refine ⟨_, rfl, prC ps[k], rfl, rfl, ?_⟩; refine ⟨_, _, _, .z, ?_⟩; refine ⟨rfl, rfl, ?_⟩; (clear H; intro w1 H; simp only [List.set] at H); go_frame) | ((with_reducible refine Hp.ld H ?_); refine ⟨rfl, c_int, _, _, rfl, _, _, _, .z, _, rfl, ?_⟩; go_frame))
        go_ret
        exact ⟨ret_bool hr.symm, Hp.ri [_] P H⟩
      · go_wp2_with (first | (fail) | (fail) | (fail) | (fail) | (fail) | (fail) | ((with_reducible refine Hp.ld H ?_); refine ⟨rfl, c_prs, _, _, rfl, _, _, _, .z, _, rfl, ?_⟩; go_frame) | ((with_reducible refine Hp.ldRow (f := prC) prC_len H ?_); refine ⟨rfl, by kernel_rfl, s_Pr, _, _, rfl, 1, _, _, _, rfl, k, rfl, hlt, ?_⟩; go_frame) | ((with_reducible refine Hp.allo (ty := 86) H ?_); refine ⟨rfl, ?_⟩; refine ⟨_, z_Pr, ?_⟩; (clear H; intro g8 w1 H); go_frame) | ((with_reducible refine Hp.sta H ?_); refine ⟨rfl, ?_⟩; refine ⟨_, s_Pr, ?_⟩; refine ⟨_, rfl, prC ps[k], rfl, rfl, ?_⟩; refine ⟨_, _, _, .z, ?_⟩; refine ⟨rfl, rfl, ?_⟩; (clear H; intro w1 H; simp only [List.set] at H); go_frame) | ((with_reducible refine Hp.ld H ?_); refine ⟨rfl, c_int, _, _, rfl, _, _, _, .z, _, rfl, ?_⟩; go_frame))
        go_roundw
        case rel => exact ⟨k + 1, _ :: P, rfl, hlt, HQ.out (by rw [HM.out, d1, d2, d3, d4]; rfl), H.mid2 [_]⟩
        case measure => show ps.length - (k + 1) < ps.length - k; omega
      · go_wp2_with (first | (fail) | (fail) | (fail) | (fail) | (fail) | (fail) | ((with_reducible refine Hp.ld H ?_); refine ⟨rfl, c_prs, _, _, rfl, _, _, _, .z, _, rfl, ?_⟩; go_frame) | ((with_reducible refine Hp.ldRow (f := prC) prC_len H ?_); refine ⟨rfl, by kernel_rfl, s_Pr, _, _, rfl, 1, _, _, _, rfl, k, rfl, hlt, ?_⟩; go_frame) | ((with_reducible refine Hp.allo (ty := 86) H ?_); refine ⟨rfl, ?_⟩; refine ⟨_, z_Pr, ?_⟩; (clear H; intro g8 w1 H); go_frame) | ((with_reducible refine Hp.sta H ?_); refine ⟨rfl, ?_⟩; refine ⟨_, s_Pr, ?_⟩; refine ⟨_, rfl, prC ps[k], rfl, rfl, ?_⟩; refine ⟨_, _, _, .z, ?_⟩; refine ⟨rfl, rfl, ?_⟩; (clear H; intro w1 H; simp only [List.set] at H); go_frame) | ((with_reducible refine Hp.ld H ?_); refine ⟨rfl, c_int, _, _, rfl, _, _, _, .z, _, rfl, ?_⟩; go_frame))
        go_roundw
        case rel => exact ⟨k + 1, _ :: P, rfl, hlt, HQ.out (by rw [HM.out, d1, d2, d3]; rfl), H.mid2 [_]⟩
        case measure => show ps.length - (k + 1) < ps.length - k; omega
      · have hr := HY.out (by rw [HM.out, d1, d3, d4]; rfl)
        go_wp2_with (first | (fail) | (fail) | (fail) | (fail) | (fail) | (fail) | ((with_reducible refine Hp.ld H ?_); refine ⟨rfl, c_prs, _, _, rfl, _, _, _, .z, _, rfl, ?_⟩; go_frame) | ((with_reducible refine Hp.ldRow (f := prC) prC_len H ?_); refine ⟨rfl, by kernel_rfl, s_Pr, _, _, rfl, 1, _, _, _, rfl, k, rfl, hlt, ?_⟩; go_frame) | ((with_reducible refine Hp.allo (ty := 86) H ?_); refine ⟨rfl, ?_⟩; refine ⟨_, z_Pr, ?_⟩; (clear H; intro g8 w1 H); go_frame) | ((with_reducible refine Hp.sta H ?_); refine ⟨rfl, ?_⟩; refine ⟨_, s_Pr, ?_⟩; refine ⟨_, rfl, prC ps[k], rfl, rfl, ?_⟩; refine ⟨_, _, _, .z, ?_⟩; refine ⟨rfl, rfl, ?_⟩; (clear H; intro w1 H; simp only [List.set] at H); go_frame) | ((with_reducible refine Hp.ld H ?_); refine ⟨rfl, c_int, _, _, rfl, _, _, _, .z, _, rfl, ?_⟩; go_frame))
        go_ret
        exact ⟨ret_bool hr.symm, Hp.ri [_] P H⟩
      · go_wp2_with (first | (fail) | (fail) | (fail) | (fail) | (fail) | (fail) | ((with_reducible refine Hp.ld H ?_); refine ⟨rfl, c_prs, _, _, rfl, _, _, _, .z, _, rfl, ?_⟩; go_frame) | ((with_reducible refine Hp.ldRow (f := prC) prC_len H ?_); refine ⟨rfl, by kernel_rfl, s_Pr, _, _, rfl, 1, _, _, _, rfl, k, rfl, hlt, ?_⟩; go_frame) | ((with_reducible refine Hp.allo (ty := 86) H ?_); refine ⟨rfl, ?_⟩; refine ⟨_, z_Pr, ?_⟩; (clear H; intro g8 w1 H); go_frame) | ((with_reducible refine Hp.sta H ?_); refine ⟨rfl, ?_⟩; refine ⟨_, s_Pr, ?_⟩; refine ⟨_, rfl, prC ps[k], rfl, rfl, ?_⟩; refine ⟨_, _, _, .z, ?_⟩; refine ⟨rfl, rfl, ?_⟩; (clear H; intro w1 H; simp only [List.set] at H); go_frame) | ((with_reducible refine Hp.ld H ?_); refine ⟨rfl, c_int, _, _, rfl, _, _, _, .z, _, rfl, ?_⟩; go_frame))
        go_roundw
        case rel => exact ⟨k + 1, _ :: P, rfl, hlt, HQ.out (by rw [HM.out, d1, d3, d4]; rfl), H.mid2 [_]⟩
        case measure => show ps.length - (k + 1) < ps.length - k; omega
      · go_wp2_with (first | (fail) | (fail) | (fail) | (fail) | (fail) | (fail) | ((with_reducible refine Hp.ld H ?_); refine ⟨rfl, c_prs, _, _, rfl, _, _, _, .z, _, rfl, ?_⟩; go_frame) | ((with_reducible refine Hp.ldRow (f := prC) prC_len H ?_); refine ⟨rfl, by kernel_rfl, s_Pr, _, _, rfl, 1, _, _, _, rfl, k, rfl, hlt, ?_⟩; go_frame) | ((with_reducible refine Hp.allo (ty := 86) H ?_); refine ⟨rfl, ?_⟩; refine ⟨_, z_Pr, ?_⟩; (clear H; intro g8 w1 H); go_frame) | ((with_reducible refine Hp.sta H ?_); refine ⟨rfl, ?_⟩; refine ⟨_, s_Pr, ?_⟩; refine ⟨_, rfl, prC ps[k], rfl, rfl, ?_⟩; refine ⟨_, _, _, .z, ?_⟩; refine ⟨rfl, rfl, ?_⟩; (clear H; intro w1 H; simp only [List.set] at H); go_frame) | ((with_reducible refine Hp.ld H ?_); refine ⟨rfl, c_int, _, _, rfl, _, _, _, .z, _, rfl, ?_⟩; go_frame))
        go_roundw
        case rel => exact ⟨k + 1, _ :: P, rfl, hlt, HQ.out (by rw [HM.out, d1, d3]; rfl), H.mid2 [_]⟩
        case measure => show ps.length - (k + 1) < ps.length - k; omega
    · obtain rfl : k = ps.length := by omega
      have hjj : decide ((ps.length : Int) < (ps.length : Int)) = false := decide_eq_false (by omega)
      rw [List.take_length] at hno
      have hr : r = false := HR.out.symm.trans hno
      clear hno
      go_wp2_with (first | (fail) | (fail) | (fail) | (fail) | (fail) | (fail) | ((with_reducible refine Hp.ld H ?_); refine ⟨rfl, c_prs, _, _, rfl, _, _, _, .z, _, rfl, ?_⟩; go_frame) | ((with_reducible refine Hp.ldRow (f := prC) prC_len H ?_); refine ⟨rfl, by kernel_rfl, s_Pr, _, _, rfl, 1, _, _, _, rfl, k, rfl, hlt, ?_⟩; go_frame) | ((with_reducible refine Hp.allo (ty := 86) H ?_); refine ⟨rfl, ?_⟩; refine ⟨_, z_Pr, ?_⟩; (clear H; intro g8 w1 H); go_frame) | ((with_reducible refine Hp.sta H ?_); refine ⟨rfl, ?_⟩; refine ⟨_, s_Pr, ?_⟩; refine ⟨_, rfl, prC ps[k], rfl, rfl, ?_⟩; refine ⟨_, _, _, .z, ?_⟩; refine ⟨rfl, rfl, ?_⟩; (clear H; intro w1 H; simp only [List.set] at H); go_frame) | ((with_reducible refine Hp.ld H ?_); refine ⟨rfl, c_int, _, _, rfl, _, _, _, .z, _, rfl, ?_⟩; go_frame))
      go_ret
      exact ⟨ret_bool hr.symm, Hp.ri [] P H⟩
theorem rplace_h {w0 w : World} {g : Nat} {n : Int} {A : Option Addr} {m c : Nat} {B : Option Addr} {j d : Nat} {L : List Item} (H : Hp w0 w (rfI g n A m c B j d :: L)) (hm : 0 < m) (hm2 : m ≤ 200) {i : Int} {q : Nat} (hi : i ≤ 9223372036854775807) (hq : natJ m i = q) :
    Calls Tryd.prog 44 #[.pointer (some ⟨g, 0, none⟩), .int .i64 i] w (RetH w0 (rfI g n A m c B j d :: L) (.int .i64 (q : Int))) := by
  cases hs : decide (i < 0)
  · have h0 := of_decide_eq_false hs
    obtain ⟨k, rfl⟩ : ∃ k : Nat, i = (k : Int) := ⟨i.toNat, by omega⟩
    have hq1 : (k : Int).tmod (m : Int) = (q : Int) := by
      rw [← hq]
      unfold natJ
      rw [show max (k : Int) 0 = (k : Int) by omega, Int.toNat_natCast]
      rfl
    have hlt : q < 200 := by
      rw [← hq]
      unfold natJ
      have := Nat.mod_lt (max (k : Int) 0).toNat hm
      omega
    have hw : IntKind.i64.wrap (q : Int) = (q : Int) := IntWalk.i64_in _ (by omega)
    have hz : ¬ m = 0 := by omega
    clear hq hlt hm hm2 hi h0
    go_enter Tryd.func44, Tryd.ntmps44
    go_wp2_with (first | ((with_reducible refine Hp.ld H ?_); refine ⟨rfl, c_look rfl, _, _, rfl, _, _, _, .z, _, rfl, ?_⟩; go_frame) | (fail))
    go_ret
    exact ⟨rfl, H⟩
  · have h0 := of_decide_eq_true hs
    have hq0 : q = 0 := by
      rw [← hq]
      unfold natJ
      rw [show max i 0 = 0 by omega]
      exact Nat.zero_mod m
    subst hq0
    clear hq h0 hm hm2 hi
    go_enter Tryd.func44, Tryd.ntmps44
    go_wp2_with (first | ((with_reducible refine Hp.ld H ?_); refine ⟨rfl, c_look rfl, _, _, rfl, _, _, _, .z, _, rfl, ?_⟩; go_frame) | (fail))
    go_ret
    exact ⟨rfl, H⟩
theorem cutB_0 (n x y : Int) : cutB n cut0 x y = false := by unfold cutB; rw [cut0_getD, Bool.and_false]
set_option maxHeartbeats 1000000 in
theorem rheal_o {w0 w : World} {g : Nat} {n : Int} {cut : List Bool} {b : Nat} {cs : List MX} {F Z : List Item} (HR : RfZ w0 w g n cut b cs F Z) :
    Calls Tryd.prog 26 #[.pointer (some ⟨g, 0, none⟩)] w (RetRf w0 g n cut0 b cs F Z (.tuple #[])) := by
  obtain ⟨A, c, fl, B, d, ps, hcs, hZ, h200, hb, h49, hE, H⟩ := HR
  go_enter Tryd.func26, Tryd.ntmps26
  go_wp2_with (first | ((with_reducible refine Hp.stv H ?_); refine ⟨rfl, c_prs, .slice none 0 0, rfl, rfl, _, _, rfl, _, _, _, .z, ⟨_, rfl⟩, ?_⟩; (clear H; intro w1 H; simp only [List.set] at H); go_frame) | (fail))
  go_end0
  refine ⟨rfl, Z, fun _ h => h, A, c, fl, none, 0, [], hcs, hZ, h200, Nat.zero_le _, by decide, fun x y => by rw [cutB_0]; rfl, ?_⟩
  have H2 : Hp w0 _ (rfI g n A fl.length c none 0 0 :: mwI A c fl :: (F ++ Z)) := H.sub (((List.sublist_cons_self _ _).cons_cons _).cons_cons _)
  exact (H2.nilRow 86 2).perm (perm_mid [_] [_, _] (F ++ Z))
end Go.Proofs.YtiieakndjheknaaDoor
