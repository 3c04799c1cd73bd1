import Derived.Test.YtiieakndjheknaaDoorPk4
import Derived.Test.YtiieakndjheknaaDoorPk3
/-
  THE WALKS OF message's of, number, chosen, ends; ballot's May.
-/
namespace Go.Proofs.YtiieakndjheknaaDoor
set_option maxRecDepth 100000
open Go.RowKit
set_option linter.unusedVariables false
set_option linter.unusedSimpArgs false
/-- the table of the letters, as it is laid -/
def FldW (w : World) : Prop := ∀ i (h : i < fld.length), w.cell? ⟨0, i, none⟩ = some (.string ⟨fld[i].toArray⟩)
theorem FldW.below {w w' : World} (h : FldW w) (hb : Below w.heap.size w w') : FldW w' := fun i hi => (hb.cell (World.block_lt_of_cell? w _ (h i hi))).trans (h i hi)
set_option maxHeartbeats 400000 in
theorem number_any (n least : Int) (w : World) : Calls Tryd.prog 61 #[.int .i64 n, .int .i64 least] w (RetV w (.bool (numB n least))) := by
  cases d0 : decide (least ≤ n)
  all_goals
    cases d1 : decide (n ≤ 1099511627776)
    all_goals
      have H := Hp.nil w
      go_enter Tryd.func61, Tryd.ntmps61
      go_wp2
      go_ret
      exact ⟨ret_bool (by rw [numB, d0, d1]; rfl), H.below⟩
set_option maxHeartbeats 400000 in
theorem bcrowd_any (n : Int) (w : World) : Calls Tryd.prog 58 #[.int .i64 n] w (RetV w (.bool (crowdB n))) := by
  cases d0 : (n == 3)
  all_goals
    cases d1 : (n == 5)
    all_goals
      cases d2 : (n == 7)
      all_goals
        have H := Hp.nil w
        go_enter Tryd.func58, Tryd.ntmps58
        go_wp2
        go_ret
        exact ⟨ret_bool (by rw [crowdB, d0, d1, d2]; rfl), H.below⟩
set_option maxHeartbeats 400000 in
theorem of_no (k : Int) (w : World) (h0 : 0 ≤ k) (h1 : k < 256) (hk : kindB k = false) : Calls Tryd.prog 48 #[.int .u8 k] w (RetV w (.tuple #[.string ⟨(lets k).toArray⟩, .bool false])) := by
  have H := Hp.nil w
  have hl : lets k = [] := by
    unfold lets
    rw [if_neg]
    intro hh
    simp only [kindB, Bool.and_eq_false_iff, decide_eq_false_iff_not] at hk
    omega
  have hw : IntKind.i64.wrap k = k := IntWalk.i64_in _ (by omega)
  rw [hl]
  cases d0 : decide (k < 1)
  · have d1 : decide (16 ≤ k) = true := by simp only [kindB, Bool.and_eq_false_iff, decide_eq_false_iff_not] at hk d0; apply decide_eq_true; omega
    go_enter Tryd.func48, Tryd.ntmps48
    go_wp2
    go_ret2
    exact ⟨rfl, H.below⟩
  · go_enter Tryd.func48, Tryd.ntmps48
    go_wp2
    go_ret2
    exact ⟨rfl, H.below⟩
set_option maxHeartbeats 400000 in
theorem of_yes (k : Int) (w : World) (hF : FldW w) (hk : kindB k = true) : Calls Tryd.prog 48 #[.int .u8 k] w (RetV w (.tuple #[.string ⟨(lets k).toArray⟩, .bool true])) := by
  have H := Hp.nil w
  have hb : 1 ≤ k ∧ k ≤ 15 := by simpa [kindB] using hk
  have hw : IntKind.i64.wrap k = k := IntWalk.i64_in _ (by omega)
  have d0 : decide (k < 1) = false := decide_eq_false (by omega)
  have d1 : decide (16 ≤ k) = false := decide_eq_false (by omega)
  obtain ⟨j, rfl⟩ : ∃ j : Nat, k = j := ⟨k.toNat, by omega⟩
  have hc := hF j (by simp [fld]; omega)
  have hl : lets (j : Int) = fld[j]'(by simp [fld]; omega) := by
    unfold lets
    rw [if_pos hb, Int.toNat_natCast, List.getElem?_eq_getElem (by simp [fld]; omega)]
    rfl
  rw [← hl] at hc
  generalize lets (j : Int) = f at hc ⊢
  clear hF hl
  go_enter Tryd.func48, Tryd.ntmps48
  go_wp2_with (first | ((with_reducible refine Hp.ld H ?_); refine ⟨rfl, ?_⟩; refine ⟨c_look rfl, ?_⟩; refine ⟨_, _, rfl, ?_⟩; ((repeat ((fail_if_success refine ⟨_, _, _, .z, ?_⟩); refine hs ?_)); refine ⟨_, _, _, .z, ?_⟩); refine ⟨_, rfl, ?_⟩; go_frame) | (fail))
  go_ret2
  exact ⟨rfl, H.below⟩

def bmayB (r p n : Int) : Bool := if balEq r p 0 0 = true then crowdB n else balM r p n
theorem b_ba0 : Tryd.prog.built 23 [] = some (baC 0 0).toArray := by kernel_rfl
theorem bcrowd_v {n : Int} {b : Bool} (h : crowdB n = b) (w : World) : Calls Tryd.prog 58 #[.int .i64 n] w (RetV w (.bool b)) := by
  subst h
  exact bcrowd_any n w
set_option maxHeartbeats 1000000 in
theorem bmay_any (r p n : Int) (w : World) : Calls Tryd.prog 49 #[.agg (baC r p).toArray, .int .i64 n] w (RetV w (.bool (bmayB r p n))) := by
  cases hz : balEq r p 0 0
  · rcases ch5 (crowdB n) (decide (1 ≤ r)) (decide (r ≤ 1099511627776)) (decide (0 ≤ p)) (decide (p < n)) with hc | ⟨hc, d1⟩ | ⟨hc, d1, d2⟩ | ⟨hc, d1, d2, d3⟩ | ⟨hc, d1, d2, d3, d4⟩ | ⟨hc, d1, d2, d3, d4⟩
    all_goals
      have H := Hp.nil w
      go_enter Tryd.func49, Tryd.ntmps49; go_wp2_with (first | ((with_reducible refine Hp.box H ?_); (first | refine ⟨rfl, baC r p, rfl, ?_⟩); (clear H; intro g1 w1 H); go_frame) | ((with_reducible refine Hp.ld H ?_); refine ⟨rfl, ?_⟩; refine ⟨c_look rfl, ?_⟩; refine ⟨_, _, rfl, ?_⟩; ((repeat ((fail_if_success refine ⟨_, _, _, .z, ?_⟩); refine hs ?_)); refine ⟨_, _, _, .z, ?_⟩); refine ⟨_, rfl, ?_⟩; go_frame) | ((with_reducible refine Hp.lda H ?_); refine ⟨rfl, by kernel_rfl, ?_⟩; refine ⟨_, s_look rfl, ?_⟩; refine ⟨_, rfl, ?_⟩; ((repeat ((fail_if_success refine ⟨_, _, _, .z, ?_⟩); refine hs ?_)); refine ⟨_, _, _, .z, ?_⟩); refine ⟨rfl, ?_⟩; go_frame) | ((with_reducible refine Hp.lds H ?_); refine ⟨rfl, by kernel_rfl, ?_⟩; refine ⟨_, s_look rfl, ?_⟩; refine ⟨_, _, rfl, ?_⟩; ((repeat ((fail_if_success refine ⟨_, _, _, .z, ?_⟩); refine hs ?_)); refine ⟨_, _, _, .z, ?_⟩); (first | refine ⟨[_, _], rfl, rfl, ?_⟩ | refine ⟨[_, _, _, _], rfl, rfl, ?_⟩ | refine ⟨[_, _, _, _, _, _, _], rfl, rfl, ?_⟩ | refine ⟨[_, _, _], rfl, rfl, ?_⟩ | (fail)); go_frame) | ((with_reducible refine Hp.bdl (t := 23) (parts := []) H ?_); refine ⟨rfl, _, b_ba0, ?_⟩; go_frame) | ((with_reducible refine wB_eqBa ?_); refine ⟨rfl, _, _, _, _, rfl, rfl, _, hz, ?_⟩; go_frame) | ((with_reducible refine (bcrowd_v hc _).mono ?_); rintro _ w1 ⟨rfl, hb⟩; replace H := H.call hb; clear hb))
      go_ret
      exact ⟨ret_bool (by unfold bmayB balM; simp [hz, hc, *]), H.below⟩
  · have hc : crowdB n = crowdB n := rfl
    have H := Hp.nil w
    go_enter Tryd.func49, Tryd.ntmps49; go_wp2_with (first | ((with_reducible refine Hp.box H ?_); (first | refine ⟨rfl, baC r p, rfl, ?_⟩); (clear H; intro g1 w1 H); go_frame) | ((with_reducible refine Hp.ld H ?_); refine ⟨rfl, ?_⟩; refine ⟨c_look rfl, ?_⟩; refine ⟨_, _, rfl, ?_⟩; ((repeat ((fail_if_success refine ⟨_, _, _, .z, ?_⟩); refine hs ?_)); refine ⟨_, _, _, .z, ?_⟩); refine ⟨_, rfl, ?_⟩; go_frame) | ((with_reducible refine Hp.lda H ?_); refine ⟨rfl, by kernel_rfl, ?_⟩; refine ⟨_, s_look rfl, ?_⟩; refine ⟨_, rfl, ?_⟩; ((repeat ((fail_if_success refine ⟨_, _, _, .z, ?_⟩); refine hs ?_)); refine ⟨_, _, _, .z, ?_⟩); refine ⟨rfl, ?_⟩; go_frame) | ((with_reducible refine Hp.lds H ?_); refine ⟨rfl, by kernel_rfl, ?_⟩; refine ⟨_, s_look rfl, ?_⟩; refine ⟨_, _, rfl, ?_⟩; ((repeat ((fail_if_success refine ⟨_, _, _, .z, ?_⟩); refine hs ?_)); refine ⟨_, _, _, .z, ?_⟩); (first | refine ⟨[_, _], rfl, rfl, ?_⟩ | refine ⟨[_, _, _, _], rfl, rfl, ?_⟩ | refine ⟨[_, _, _, _, _, _, _], rfl, rfl, ?_⟩ | refine ⟨[_, _, _], rfl, rfl, ?_⟩ | (fail)); go_frame) | ((with_reducible refine Hp.bdl (t := 23) (parts := []) H ?_); refine ⟨rfl, _, b_ba0, ?_⟩; go_frame) | ((with_reducible refine wB_eqBa ?_); refine ⟨rfl, _, _, _, _, rfl, rfl, _, hz, ?_⟩; go_frame) | ((with_reducible refine (bcrowd_v hc _).mono ?_); rintro _ w1 ⟨rfl, hb⟩; replace H := H.call hb; clear hb))
    go_ret
    exact ⟨ret_bool (by unfold bmayB; rw [hz]; rfl), H.below⟩
theorem bmay_v {r p n : Int} {b : Bool} (h : bmayB r p n = b) (w : World) : Calls Tryd.prog 49 #[.agg (baC r p).toArray, .int .i64 n] w (RetV w (.bool b)) := by
  subst h
  exact bmay_any r p n w
theorem chosen_eq (r p n : Int) : (!balEq r p 0 0 && bmayB r p n) = balM r p n := by
  unfold bmayB
  cases h : balEq r p 0 0
  · simp
  · have : r = 0 := by unfold balEq at h; simp at h; exact h.1
    subst this
    simp [balM]
set_option maxHeartbeats 1000000 in
theorem chosen_any (r p n : Int) (w : World) : Calls Tryd.prog 62 #[.agg (baC r p).toArray, .int .i64 n] w (RetV w (.bool (balM r p n))) := by
  rw [← chosen_eq]
  rcases ch2 (!balEq r p 0 0) (bmayB r p n) with hz | ⟨hz, hb⟩ | ⟨hz, hb⟩
  all_goals
    have H := Hp.nil w
    go_enter Tryd.func62, Tryd.ntmps62
    go_wp2_with (first | ((with_reducible refine Hp.box H ?_); (first | refine ⟨rfl, baC r p, rfl, ?_⟩); (clear H; intro g1 w1 H); go_frame) | ((with_reducible refine Hp.lda H ?_); refine ⟨rfl, by kernel_rfl, ?_⟩; refine ⟨_, s_look rfl, ?_⟩; refine ⟨_, rfl, ?_⟩; ((repeat ((fail_if_success refine ⟨_, _, _, .z, ?_⟩); refine hs ?_)); refine ⟨_, _, _, .z, ?_⟩); refine ⟨rfl, ?_⟩; go_frame) | ((with_reducible refine Hp.lds H ?_); refine ⟨rfl, by kernel_rfl, ?_⟩; refine ⟨_, s_look rfl, ?_⟩; refine ⟨_, _, rfl, ?_⟩; ((repeat ((fail_if_success refine ⟨_, _, _, .z, ?_⟩); refine hs ?_)); refine ⟨_, _, _, .z, ?_⟩); (first | refine ⟨[_, _], rfl, rfl, ?_⟩ | refine ⟨[_, _, _, _], rfl, rfl, ?_⟩ | refine ⟨[_, _, _, _, _, _, _], rfl, rfl, ?_⟩ | refine ⟨[_, _, _], rfl, rfl, ?_⟩ | (fail)); go_frame) | ((with_reducible refine Hp.bdl (t := 23) (parts := []) H ?_); refine ⟨rfl, _, b_ba0, ?_⟩; go_frame) | ((with_reducible refine wB_neBa ?_); refine ⟨rfl, _, _, _, _, rfl, rfl, _, hz, ?_⟩; go_frame) | ((with_reducible refine (bmay_v hb _).mono ?_); rintro _ w1 ⟨rfl, hb⟩; replace H := H.call hb; clear hb))
    go_ret
    exact ⟨ret_bool (by simp [*]), H.below⟩
set_option maxHeartbeats 400000 in
theorem ends1_any (i n : Int) (g : Nat) (w : World) (hc : w.cell? ⟨g, 0, none⟩ = some (.int .i64 n)) : Calls Tryd.prog 59 #[.int .i64 i, .pointer (some ⟨g, 0, none⟩)] w (RetV w (.bool (repIx n i))) := by
  unfold repIx
  rcases ch2 (decide (0 ≤ i)) (decide (i < n)) with h0 | ⟨h0, h1⟩ | ⟨h0, h1⟩
  all_goals
    have H := Hp.nil w
    go_enter Tryd.func59, Tryd.ntmps59
    go_wp2_with (first | ((with_reducible refine Hp.ld H ?_); refine ⟨rfl, ?_⟩; refine ⟨c_look rfl, ?_⟩; refine ⟨_, _, rfl, ?_⟩; ((repeat ((fail_if_success refine ⟨_, _, _, .z, ?_⟩); refine hs ?_)); refine ⟨_, _, _, .z, ?_⟩); refine ⟨_, rfl, ?_⟩; go_frame) | ((with_reducible refine Hp.ldo H ?_); refine ⟨rfl, ?_⟩; refine ⟨c_look rfl, ?_⟩; refine ⟨_, rfl, ?_⟩; refine ⟨_, ‹_›, ?_⟩; go_frame))
    go_ret
    exact ⟨ret_bool (by simp [*]), H.below⟩
set_option maxHeartbeats 400000 in
theorem ends2_any (i : Int) (w : World) : Calls Tryd.prog 60 #[.int .i64 i] w (RetV w (.bool (cliIx i))) := by
  unfold cliIx
  rcases ch2 (decide (i < 0)) (decide (-4 ≤ i)) with h0 | ⟨h0, h1⟩ | ⟨h0, h1⟩
  all_goals
    have H := Hp.nil w
    go_enter Tryd.func60, Tryd.ntmps60
    go_wp2_with (first | ((with_reducible refine Hp.ldo H ?_); refine ⟨rfl, ?_⟩; refine ⟨c_look rfl, ?_⟩; refine ⟨_, rfl, ?_⟩; refine ⟨_, ‹_›, ?_⟩; go_frame))
    go_ret
    exact ⟨ret_bool (by simp [*]), H.below⟩
theorem ends1_v {i n : Int} {b : Bool} (h : repIx n i = b) {g : Nat} {w : World} (hc : w.cell? ⟨g, 0, none⟩ = some (.int .i64 n)) : Calls Tryd.prog 59 #[.int .i64 i, .pointer (some ⟨g, 0, none⟩)] w (RetV w (.bool b)) := by
  subst h
  exact ends1_any i n g w hc
theorem ends2_v {i : Int} {b : Bool} (h : cliIx i = b) (w : World) : Calls Tryd.prog 60 #[.int .i64 i] w (RetV w (.bool b)) := by
  subst h
  exact ends2_any i w
set_option maxHeartbeats 2000000 in
theorem ends_any (m : Mg) (n : Int) (w : World) : Calls Tryd.prog 50 #[.agg (mgC m).toArray, .int .i64 n] w (RetV w (.bool (endsB m n))) := by
  have hmf : ∀ (fn : Fn) (first cap : Array Value) (w : World), (Instr.makeFunc fn first cap).run Tryd.prog w = .ok (.func fn first cap) w := fun _ _ _ _ => rfl
  by_cases k1 : m.k = 1
  · rcases ch2 (cliIx m.fr) (repIx n m.to) with e1 | ⟨e1, e2⟩ | ⟨e1, e2⟩
    all_goals
      have H := Hp.nil w
      have b1 : (m.k == 1) = true := by simp [k1]
      go_enter Tryd.func50, Tryd.ntmps50; go_wp2_with (first | ((with_reducible refine Hp.box H ?_); (first | refine ⟨rfl, mgC m, rfl, ?_⟩ | refine ⟨rfl, [.int _ _], rfl, ?_⟩); (clear H; intro g1 w1 H); go_frame) | ((with_reducible refine Hp.ld H ?_); refine ⟨rfl, ?_⟩; refine ⟨c_look rfl, ?_⟩; refine ⟨_, _, rfl, ?_⟩; ((repeat ((fail_if_success refine ⟨_, _, _, .z, ?_⟩); refine hs ?_)); refine ⟨_, _, _, .z, ?_⟩); refine ⟨_, rfl, ?_⟩; go_frame) | ((first | (with_reducible refine (ends1_v e1 (H.c 0 rfl 0 rfl)).mono ?_) | (with_reducible refine (ends1_v e2 (H.c 0 rfl 0 rfl)).mono ?_)); rintro _ w1 ⟨rfl, hb⟩; replace H := H.call hb; clear hb) | ((first | (with_reducible refine (ends2_v e1 _).mono ?_) | (with_reducible refine (ends2_v e2 _).mono ?_)); rintro _ w1 ⟨rfl, hb⟩; replace H := H.call hb; clear hb)); go_ret; exact ⟨ret_bool (by rw [endsB]; simp [*]), H.below⟩
  · have b1 : (m.k == 1) = false := beq_eq_false_iff_ne.mpr k1
    by_cases k2 : m.k = 2
    · have b2 : (m.k == 2) = true := by simp [k2]
      rcases ch2 (repIx n m.fr) (cliIx m.to) with e1 | ⟨e1, e2⟩ | ⟨e1, e2⟩
      all_goals
        have H := Hp.nil w
        go_enter Tryd.func50, Tryd.ntmps50; go_wp2_with (first | ((with_reducible refine Hp.box H ?_); (first | refine ⟨rfl, mgC m, rfl, ?_⟩ | refine ⟨rfl, [.int _ _], rfl, ?_⟩); (clear H; intro g1 w1 H); go_frame) | ((with_reducible refine Hp.ld H ?_); refine ⟨rfl, ?_⟩; refine ⟨c_look rfl, ?_⟩; refine ⟨_, _, rfl, ?_⟩; ((repeat ((fail_if_success refine ⟨_, _, _, .z, ?_⟩); refine hs ?_)); refine ⟨_, _, _, .z, ?_⟩); refine ⟨_, rfl, ?_⟩; go_frame) | ((first | (with_reducible refine (ends1_v e1 (H.c 0 rfl 0 rfl)).mono ?_) | (with_reducible refine (ends1_v e2 (H.c 0 rfl 0 rfl)).mono ?_)); rintro _ w1 ⟨rfl, hb⟩; replace H := H.call hb; clear hb) | ((first | (with_reducible refine (ends2_v e1 _).mono ?_) | (with_reducible refine (ends2_v e2 _).mono ?_)); rintro _ w1 ⟨rfl, hb⟩; replace H := H.call hb; clear hb)); go_ret; exact ⟨ret_bool (by rw [endsB]; simp [*]), H.below⟩
    · have b2 : (m.k == 2) = false := beq_eq_false_iff_ne.mpr k2
      rcases ch3 (repIx n m.fr) (repIx n m.to) (m.fr != m.to) with e1 | ⟨e1, e2⟩ | ⟨e1, e2, e3⟩ | ⟨e1, e2, e3⟩
      all_goals
        have H := Hp.nil w
        go_enter Tryd.func50, Tryd.ntmps50; go_wp2_with (first | ((with_reducible refine Hp.box H ?_); (first | refine ⟨rfl, mgC m, rfl, ?_⟩ | refine ⟨rfl, [.int _ _], rfl, ?_⟩); (clear H; intro g1 w1 H); go_frame) | ((with_reducible refine Hp.ld H ?_); refine ⟨rfl, ?_⟩; refine ⟨c_look rfl, ?_⟩; refine ⟨_, _, rfl, ?_⟩; ((repeat ((fail_if_success refine ⟨_, _, _, .z, ?_⟩); refine hs ?_)); refine ⟨_, _, _, .z, ?_⟩); refine ⟨_, rfl, ?_⟩; go_frame) | ((first | (with_reducible refine (ends1_v e1 (H.c 0 rfl 0 rfl)).mono ?_) | (with_reducible refine (ends1_v e2 (H.c 0 rfl 0 rfl)).mono ?_)); rintro _ w1 ⟨rfl, hb⟩; replace H := H.call hb; clear hb) | ((first | (with_reducible refine (ends2_v e1 _).mono ?_) | (with_reducible refine (ends2_v e2 _).mono ?_)); rintro _ w1 ⟨rfl, hb⟩; replace H := H.call hb; clear hb)); go_ret; exact ⟨ret_bool (by rw [endsB]; simp [*]), H.below⟩
end Go.Proofs.YtiieakndjheknaaDoor

/-
  THE WALKS OF slices.Equal, of reports and of bytes.
-/
namespace Go.Proofs.YtiieakndjheknaaDoor
set_option maxRecDepth 100000
open Go.RowKit
set_option linter.unusedVariables false
set_option linter.unusedSimpArgs false
theorem list_ext {α : Type} {l m : List α} (hl : l.length = m.length) (h : ∀ i (h : i < l.length) (h' : i < m.length), l[i] = m[i]) : l = m := List.ext_getElem hl h
/-- as far as they were gone through they are the same -/
def ERel {α : Type} (w : World) (l m : List α) (v : Value) (wr : World) : Prop := ∃ k : Nat, k ≤ l.length ∧ v = .int .i64 k ∧ (∀ i (h : i < l.length) (h' : i < m.length), i < k → l[i] = m[i]) ∧ Below w.heap.size w wr
set_option maxHeartbeats 2000000 in
theorem eqRps_any (A B : Option Addr) (c d : Nat) (l m : List Rp) (w : World) (hA : RRp w A l) (hB : RRp w B m) (hl : l.length ≤ maxLen) (hm : m.length ≤ maxLen) :
    Calls Tryd.prog 46 #[.slice A l.length c, .slice B m.length d] w (RetV w (.bool (rpsEq l m))) := by
  have H := Hp.nil w
  by_cases hlen : l.length = m.length
  · have hlb : ((l.length : Int) != m.length) = false := by simp [hlen]
    have HLEN := Lib.hid hlen
    clear hlen
    have hx := True.intro
    have hy := True.intro
    have hq := True.intro
    go_enter Tryd.func46, Tryd.ntmps46; go_wp2_with (first | ((with_reducible refine Hp.lda H ?_); refine ⟨rfl, by kernel_rfl, ?_⟩; refine ⟨_, s_look rfl, ?_⟩; refine ⟨_, rfl, ?_⟩; ((repeat ((fail_if_success refine ⟨_, _, _, .z, ?_⟩); refine hs ?_)); refine ⟨_, _, _, .z, ?_⟩); refine ⟨rfl, ?_⟩; go_frame) | ((with_reducible refine Hp.lds H ?_); refine ⟨rfl, by kernel_rfl, ?_⟩; refine ⟨_, s_look rfl, ?_⟩; refine ⟨_, _, rfl, ?_⟩; ((repeat ((fail_if_success refine ⟨_, _, _, .z, ?_⟩); refine hs ?_)); refine ⟨_, _, _, .z, ?_⟩); (first | refine ⟨[_, _], rfl, rfl, ?_⟩ | refine ⟨[_, _, _, _], rfl, rfl, ?_⟩ | refine ⟨[_, _, _, _, _, _, _], rfl, rfl, ?_⟩ | refine ⟨[_, _, _], rfl, rfl, ?_⟩ | (fail)); go_frame) | (fail))
    have hat : ERel w l m (.int .i64 (0 : Nat)) w := ⟨0, Nat.zero_le _, rfl, fun i _ _ h => absurd h (by omega), Below.refl _ _⟩
    clear hx hy hq H
    go_loopw [5, 13] (fun _ v wr => ERel w l m v wr) (fun _ v _ => l.length - (intOf v).toNat)
    case atStart => exact hat
    case round =>
      clear hat
      obtain ⟨k, hk, rfl, hall, hb⟩ := hrel
      have HA := Lib.hid hall
      clear hall
      unfold maxLen at hl hm
      have H : Hp w wr [] := (Hp.nil w).call hb
      by_cases hlt : k < l.length
      · have hlt' : k < m.length := by rw [← HLEN.out]; exact hlt
        obtain ⟨b, o, rfl, hrow⟩ := hA (fun e => by subst e; simp at hlt)
        obtain ⟨b', o', rfl, hrow'⟩ := hB (fun e => by subst e; simp at hlt')
        have hx := hrow k hlt
        have hy := hrow' k hlt'
        obtain ⟨x, hxe⟩ : ∃ x, l[k] = x := ⟨_, rfl⟩
        obtain ⟨y, hye⟩ : ∃ y, m[k] = y := ⟨_, rfl⟩
        rw [hxe] at hx
        rw [hye] at hy
        have HXE := Lib.hid hxe
        have HYE := Lib.hid hye
        clear hxe hye hb
        cases hq : (!rpEq x y)
        · go_wp2_with (first | ((with_reducible refine Hp.lda H ?_); refine ⟨rfl, by kernel_rfl, ?_⟩; refine ⟨_, s_look rfl, ?_⟩; refine ⟨_, rfl, ?_⟩; ((repeat ((fail_if_success refine ⟨_, _, _, .z, ?_⟩); refine hs ?_)); refine ⟨_, _, _, .z, ?_⟩); refine ⟨rfl, ?_⟩; go_frame) | ((with_reducible refine Hp.lds H ?_); refine ⟨rfl, by kernel_rfl, ?_⟩; refine ⟨_, s_look rfl, ?_⟩; refine ⟨_, _, rfl, ?_⟩; ((repeat ((fail_if_success refine ⟨_, _, _, .z, ?_⟩); refine hs ?_)); refine ⟨_, _, _, .z, ?_⟩); (first | refine ⟨[_, _], rfl, rfl, ?_⟩ | refine ⟨[_, _, _, _], rfl, rfl, ?_⟩ | refine ⟨[_, _, _, _, _, _, _], rfl, rfl, ?_⟩ | refine ⟨[_, _, _], rfl, rfl, ?_⟩ | (fail)); go_frame) | (fail))
          ((with_reducible refine wp_region_hpK H (by kernel_rfl) (by kernel_rfl) ?_); intro _ KQ hKQ; (repeat (first | go_big_quiet_skip | ((with_reducible refine hq_lda ?_); refine ⟨rfl, by kernel_rfl, ?_⟩; refine ⟨_, s_look rfl, ?_⟩; refine ⟨_, rfl, ?_⟩; ((repeat ((fail_if_success refine ⟨_, _, _, .z, ?_⟩); refine hs ?_)); refine ⟨_, _, _, .z, ?_⟩); refine ⟨rfl, ?_⟩; go_frame) | ((with_reducible refine hq_lds ?_); refine ⟨rfl, by kernel_rfl, ?_⟩; refine ⟨_, s_look rfl, ?_⟩; refine ⟨_, _, rfl, ?_⟩; ((repeat ((fail_if_success refine ⟨_, _, _, .z, ?_⟩); refine hs ?_)); refine ⟨_, _, _, .z, ?_⟩); (first | refine ⟨[_, _], rfl, rfl, ?_⟩ | refine ⟨[_, _, _, _], rfl, rfl, ?_⟩ | refine ⟨[_, _, _, _, _, _, _], rfl, rfl, ?_⟩ | refine ⟨[_, _, _], rfl, rfl, ?_⟩ | (fail)); go_frame) | ((with_reducible refine hq_ldrO ?_); refine ⟨rfl, by kernel_rfl, _, _, rfl, _, hx, s_Report, ?_⟩; go_frame) | ((with_reducible refine hq_ldrO ?_); refine ⟨rfl, by kernel_rfl, _, _, rfl, _, hy, s_Report, ?_⟩; go_frame) | ((with_reducible refine qB_neRp ?_); refine ⟨rfl, _, _, rfl, rfl, _, hq, ?_⟩; go_frame) | go_big_quiet_step ((fail)))); (with_reducible refine wpQuiet_nil (hKQ _ ?_)); clear hKQ; clear KQ H; intro w1 H)
          go_wp2_with (first | ((with_reducible refine Hp.lda H ?_); refine ⟨rfl, by kernel_rfl, ?_⟩; refine ⟨_, s_look rfl, ?_⟩; refine ⟨_, rfl, ?_⟩; ((repeat ((fail_if_success refine ⟨_, _, _, .z, ?_⟩); refine hs ?_)); refine ⟨_, _, _, .z, ?_⟩); refine ⟨rfl, ?_⟩; go_frame) | ((with_reducible refine Hp.lds H ?_); refine ⟨rfl, by kernel_rfl, ?_⟩; refine ⟨_, s_look rfl, ?_⟩; refine ⟨_, _, rfl, ?_⟩; ((repeat ((fail_if_success refine ⟨_, _, _, .z, ?_⟩); refine hs ?_)); refine ⟨_, _, _, .z, ?_⟩); (first | refine ⟨[_, _], rfl, rfl, ?_⟩ | refine ⟨[_, _, _, _], rfl, rfl, ?_⟩ | refine ⟨[_, _, _, _, _, _, _], rfl, rfl, ?_⟩ | refine ⟨[_, _, _], rfl, rfl, ?_⟩ | (fail)); go_frame) | (fail))
          go_roundw
          case rel =>
            refine ⟨k + 1, hlt, rfl, fun i h h' hi => ?_, H.below⟩
            by_cases hik : i < k
            · exact HA.out i h h' hik
            · obtain rfl : i = k := by omega
              rw [HXE.out, HYE.out]
              exact rpEq_iff.1 (by simpa using hq)
          case measure => show l.length - ((k : Int) + 1).toNat < l.length - ((k : Int)).toNat; omega
        · go_wp2_with (first | ((with_reducible refine Hp.lda H ?_); refine ⟨rfl, by kernel_rfl, ?_⟩; refine ⟨_, s_look rfl, ?_⟩; refine ⟨_, rfl, ?_⟩; ((repeat ((fail_if_success refine ⟨_, _, _, .z, ?_⟩); refine hs ?_)); refine ⟨_, _, _, .z, ?_⟩); refine ⟨rfl, ?_⟩; go_frame) | ((with_reducible refine Hp.lds H ?_); refine ⟨rfl, by kernel_rfl, ?_⟩; refine ⟨_, s_look rfl, ?_⟩; refine ⟨_, _, rfl, ?_⟩; ((repeat ((fail_if_success refine ⟨_, _, _, .z, ?_⟩); refine hs ?_)); refine ⟨_, _, _, .z, ?_⟩); (first | refine ⟨[_, _], rfl, rfl, ?_⟩ | refine ⟨[_, _, _, _], rfl, rfl, ?_⟩ | refine ⟨[_, _, _, _, _, _, _], rfl, rfl, ?_⟩ | refine ⟨[_, _, _], rfl, rfl, ?_⟩ | (fail)); go_frame) | (fail))
          ((with_reducible refine wp_region_hpK H (by kernel_rfl) (by kernel_rfl) ?_); intro _ KQ hKQ; (repeat (first | go_big_quiet_skip | ((with_reducible refine hq_lda ?_); refine ⟨rfl, by kernel_rfl, ?_⟩; refine ⟨_, s_look rfl, ?_⟩; refine ⟨_, rfl, ?_⟩; ((repeat ((fail_if_success refine ⟨_, _, _, .z, ?_⟩); refine hs ?_)); refine ⟨_, _, _, .z, ?_⟩); refine ⟨rfl, ?_⟩; go_frame) | ((with_reducible refine hq_lds ?_); refine ⟨rfl, by kernel_rfl, ?_⟩; refine ⟨_, s_look rfl, ?_⟩; refine ⟨_, _, rfl, ?_⟩; ((repeat ((fail_if_success refine ⟨_, _, _, .z, ?_⟩); refine hs ?_)); refine ⟨_, _, _, .z, ?_⟩); (first | refine ⟨[_, _], rfl, rfl, ?_⟩ | refine ⟨[_, _, _, _], rfl, rfl, ?_⟩ | refine ⟨[_, _, _, _, _, _, _], rfl, rfl, ?_⟩ | refine ⟨[_, _, _], rfl, rfl, ?_⟩ | (fail)); go_frame) | ((with_reducible refine hq_ldrO ?_); refine ⟨rfl, by kernel_rfl, _, _, rfl, _, hx, s_Report, ?_⟩; go_frame) | ((with_reducible refine hq_ldrO ?_); refine ⟨rfl, by kernel_rfl, _, _, rfl, _, hy, s_Report, ?_⟩; go_frame) | ((with_reducible refine qB_neRp ?_); refine ⟨rfl, _, _, rfl, rfl, _, hq, ?_⟩; go_frame) | go_big_quiet_step ((fail)))); (with_reducible refine wpQuiet_nil (hKQ _ ?_)); clear hKQ; clear KQ H; intro w1 H)
          go_wp2_with (first | ((with_reducible refine Hp.lda H ?_); refine ⟨rfl, by kernel_rfl, ?_⟩; refine ⟨_, s_look rfl, ?_⟩; refine ⟨_, rfl, ?_⟩; ((repeat ((fail_if_success refine ⟨_, _, _, .z, ?_⟩); refine hs ?_)); refine ⟨_, _, _, .z, ?_⟩); refine ⟨rfl, ?_⟩; go_frame) | ((with_reducible refine Hp.lds H ?_); refine ⟨rfl, by kernel_rfl, ?_⟩; refine ⟨_, s_look rfl, ?_⟩; refine ⟨_, _, rfl, ?_⟩; ((repeat ((fail_if_success refine ⟨_, _, _, .z, ?_⟩); refine hs ?_)); refine ⟨_, _, _, .z, ?_⟩); (first | refine ⟨[_, _], rfl, rfl, ?_⟩ | refine ⟨[_, _, _, _], rfl, rfl, ?_⟩ | refine ⟨[_, _, _, _, _, _, _], rfl, rfl, ?_⟩ | refine ⟨[_, _, _], rfl, rfl, ?_⟩ | (fail)); go_frame) | (fail))
          go_ret
          refine ⟨ret_bool ?_, H.below⟩
          cases e : rpsEq l m
          · rfl
          · have e := rpsEq_iff.1 e
            subst e
            rw [← HXE.out, ← HYE.out, rpEq_iff.2 rfl] at hq
            cases hq
      · obtain rfl : k = l.length := by omega
        have hx := True.intro
        have hy := True.intro
        have hq := True.intro
        go_wp2_with (first | ((with_reducible refine Hp.lda H ?_); refine ⟨rfl, by kernel_rfl, ?_⟩; refine ⟨_, s_look rfl, ?_⟩; refine ⟨_, rfl, ?_⟩; ((repeat ((fail_if_success refine ⟨_, _, _, .z, ?_⟩); refine hs ?_)); refine ⟨_, _, _, .z, ?_⟩); refine ⟨rfl, ?_⟩; go_frame) | ((with_reducible refine Hp.lds H ?_); refine ⟨rfl, by kernel_rfl, ?_⟩; refine ⟨_, s_look rfl, ?_⟩; refine ⟨_, _, rfl, ?_⟩; ((repeat ((fail_if_success refine ⟨_, _, _, .z, ?_⟩); refine hs ?_)); refine ⟨_, _, _, .z, ?_⟩); (first | refine ⟨[_, _], rfl, rfl, ?_⟩ | refine ⟨[_, _, _, _], rfl, rfl, ?_⟩ | refine ⟨[_, _, _, _, _, _, _], rfl, rfl, ?_⟩ | refine ⟨[_, _, _], rfl, rfl, ?_⟩ | (fail)); go_frame) | (fail))
        go_ret
        refine ⟨ret_bool ?_, H.below⟩
        exact (rpsEq_iff.2 (list_ext HLEN.out fun i h h' => HA.out i h h' h)).symm
  · have hlb : ((l.length : Int) != m.length) = true := by simp; omega
    have hx := True.intro
    have hy := True.intro
    have hq := True.intro
    go_enter Tryd.func46, Tryd.ntmps46; go_wp2_with (first | ((with_reducible refine Hp.lda H ?_); refine ⟨rfl, by kernel_rfl, ?_⟩; refine ⟨_, s_look rfl, ?_⟩; refine ⟨_, rfl, ?_⟩; ((repeat ((fail_if_success refine ⟨_, _, _, .z, ?_⟩); refine hs ?_)); refine ⟨_, _, _, .z, ?_⟩); refine ⟨rfl, ?_⟩; go_frame) | ((with_reducible refine Hp.lds H ?_); refine ⟨rfl, by kernel_rfl, ?_⟩; refine ⟨_, s_look rfl, ?_⟩; refine ⟨_, _, rfl, ?_⟩; ((repeat ((fail_if_success refine ⟨_, _, _, .z, ?_⟩); refine hs ?_)); refine ⟨_, _, _, .z, ?_⟩); (first | refine ⟨[_, _], rfl, rfl, ?_⟩ | refine ⟨[_, _, _, _], rfl, rfl, ?_⟩ | refine ⟨[_, _, _, _, _, _, _], rfl, rfl, ?_⟩ | refine ⟨[_, _, _], rfl, rfl, ?_⟩ | (fail)); go_frame) | (fail))
    go_ret
    refine ⟨ret_bool ?_, H.below⟩
    cases e : rpsEq l m
    · rfl
    · exact absurd (by rw [rpsEq_iff.1 e]) hlen
set_option maxHeartbeats 2000000 in
theorem eqBys_any (A B : Option Addr) (c d : Nat) (l m : List UInt8) (w : World) (hA : Rd w A l) (hB : Rd w B m) (hl : l.length ≤ maxLen) (hm : m.length ≤ maxLen) :
    Calls Tryd.prog 47 #[.slice A l.length c, .slice B m.length d] w (RetV w (.bool (eqB l m))) := by
  have H := Hp.nil w
  by_cases hlen : l.length = m.length
  · have hlb : ((l.length : Int) != m.length) = false := by simp [hlen]
    have HLEN := Lib.hid hlen
    clear hlen
    go_enter Tryd.func47, Tryd.ntmps47; go_wp2_with (first | ((with_reducible refine Hp.ld H ?_); refine ⟨rfl, ?_⟩; refine ⟨c_look rfl, ?_⟩; refine ⟨_, _, rfl, ?_⟩; ((repeat ((fail_if_success refine ⟨_, _, _, .z, ?_⟩); refine hs ?_)); refine ⟨_, _, _, .z, ?_⟩); refine ⟨_, rfl, ?_⟩; go_frame) | (fail))
    have hat : ERel w l m (.int .i64 (0 : Nat)) w := ⟨0, Nat.zero_le _, rfl, fun i _ _ h => absurd h (by omega), Below.refl _ _⟩
    clear H
    go_loopw [5, 13] (fun _ v wr => ERel w l m v wr) (fun _ v _ => l.length - (intOf v).toNat)
    case atStart => exact hat
    case round =>
      clear hat
      obtain ⟨k, hk, rfl, hall, hb⟩ := hrel
      have HA := Lib.hid hall
      clear hall
      unfold maxLen at hl hm
      have H : Hp w wr [] := (Hp.nil w).call hb
      by_cases hlt : k < l.length
      · have hlt' : k < m.length := by rw [← HLEN.out]; exact hlt
        obtain ⟨b, o, rfl, hrow⟩ := hA (fun e => by subst e; simp at hlt)
        obtain ⟨b', o', rfl, hrow'⟩ := hB (fun e => by subst e; simp at hlt')
        have hx := hrow k hlt
        have hy := hrow' k hlt'
        obtain ⟨x, hxe⟩ : ∃ x, l[k] = x := ⟨_, rfl⟩
        obtain ⟨y, hye⟩ : ∃ y, m[k] = y := ⟨_, rfl⟩
        rw [hxe] at hx
        rw [hye] at hy
        have HXE := Lib.hid hxe
        have HYE := Lib.hid hye
        clear hxe hye hb hrow hrow' hA hB
        cases hq : ((x.toNat : Int) != (y.toNat : Int))
        · go_wp2_with (first | ((with_reducible refine Hp.ld H ?_); refine ⟨rfl, ?_⟩; refine ⟨c_look rfl, ?_⟩; refine ⟨_, _, rfl, ?_⟩; ((repeat ((fail_if_success refine ⟨_, _, _, .z, ?_⟩); refine hs ?_)); refine ⟨_, _, _, .z, ?_⟩); refine ⟨_, rfl, ?_⟩; go_frame) | (fail))
          ((with_reducible refine wp_region_hpK H (by kernel_rfl) (by kernel_rfl) ?_); intro _ KQ hKQ; (repeat (first | go_big_quiet_skip | ((with_reducible refine hq_ld ?_); refine ⟨rfl, ?_⟩; refine ⟨c_look rfl, ?_⟩; refine ⟨_, _, rfl, ?_⟩; ((repeat ((fail_if_success refine ⟨_, _, _, .z, ?_⟩); refine hs ?_)); refine ⟨_, _, _, .z, ?_⟩); refine ⟨_, rfl, ?_⟩; go_frame) | ((with_reducible refine hq_ldo ?_); refine ⟨rfl, ?_⟩; refine ⟨c_look rfl, ?_⟩; refine ⟨_, rfl, ?_⟩; refine ⟨_, ‹_›, ?_⟩; go_frame) | go_big_quiet_step ((fail)))); (with_reducible refine wpQuiet_nil (hKQ _ ?_)); clear hKQ; clear KQ H; intro w1 H)
          go_wp2_with (first | ((with_reducible refine Hp.ld H ?_); refine ⟨rfl, ?_⟩; refine ⟨c_look rfl, ?_⟩; refine ⟨_, _, rfl, ?_⟩; ((repeat ((fail_if_success refine ⟨_, _, _, .z, ?_⟩); refine hs ?_)); refine ⟨_, _, _, .z, ?_⟩); refine ⟨_, rfl, ?_⟩; go_frame) | (fail))
          go_roundw
          case rel =>
            refine ⟨k + 1, hlt, rfl, fun i h h' hi => ?_, H.below⟩
            by_cases hik : i < k
            · exact HA.out i h h' hik
            · obtain rfl : i = k := by omega
              rw [HXE.out, HYE.out]
              have : (x.toNat : Int) = y.toNat := by simpa using hq
              exact UInt8.toNat_inj.1 (by omega)
          case measure => show l.length - ((k : Int) + 1).toNat < l.length - ((k : Int)).toNat; omega
        · go_wp2_with (first | ((with_reducible refine Hp.ld H ?_); refine ⟨rfl, ?_⟩; refine ⟨c_look rfl, ?_⟩; refine ⟨_, _, rfl, ?_⟩; ((repeat ((fail_if_success refine ⟨_, _, _, .z, ?_⟩); refine hs ?_)); refine ⟨_, _, _, .z, ?_⟩); refine ⟨_, rfl, ?_⟩; go_frame) | (fail))
          ((with_reducible refine wp_region_hpK H (by kernel_rfl) (by kernel_rfl) ?_); intro _ KQ hKQ; (repeat (first | go_big_quiet_skip | ((with_reducible refine hq_ld ?_); refine ⟨rfl, ?_⟩; refine ⟨c_look rfl, ?_⟩; refine ⟨_, _, rfl, ?_⟩; ((repeat ((fail_if_success refine ⟨_, _, _, .z, ?_⟩); refine hs ?_)); refine ⟨_, _, _, .z, ?_⟩); refine ⟨_, rfl, ?_⟩; go_frame) | ((with_reducible refine hq_ldo ?_); refine ⟨rfl, ?_⟩; refine ⟨c_look rfl, ?_⟩; refine ⟨_, rfl, ?_⟩; refine ⟨_, ‹_›, ?_⟩; go_frame) | go_big_quiet_step ((fail)))); (with_reducible refine wpQuiet_nil (hKQ _ ?_)); clear hKQ; clear KQ H; intro w1 H)
          go_wp2_with (first | ((with_reducible refine Hp.ld H ?_); refine ⟨rfl, ?_⟩; refine ⟨c_look rfl, ?_⟩; refine ⟨_, _, rfl, ?_⟩; ((repeat ((fail_if_success refine ⟨_, _, _, .z, ?_⟩); refine hs ?_)); refine ⟨_, _, _, .z, ?_⟩); refine ⟨_, rfl, ?_⟩; go_frame) | (fail))
          go_ret
          refine ⟨ret_bool ?_, H.below⟩
          have hne : ¬ l = m := by
            intro e
            subst e
            have : x = y := by rw [← HXE.out, ← HYE.out]
            rw [this] at hq
            simp at hq
          exact (decide_eq_false hne).symm
      · obtain rfl : k = l.length := by omega
        go_wp2_with (first | ((with_reducible refine Hp.ld H ?_); refine ⟨rfl, ?_⟩; refine ⟨c_look rfl, ?_⟩; refine ⟨_, _, rfl, ?_⟩; ((repeat ((fail_if_success refine ⟨_, _, _, .z, ?_⟩); refine hs ?_)); refine ⟨_, _, _, .z, ?_⟩); refine ⟨_, rfl, ?_⟩; go_frame) | (fail))
        go_ret
        refine ⟨ret_bool ?_, H.below⟩
        exact (decide_eq_true (list_ext HLEN.out fun i h h' => HA.out i h h' h)).symm
  · have hlb : ((l.length : Int) != m.length) = true := by simp; omega
    go_enter Tryd.func47, Tryd.ntmps47; go_wp2_with (first | ((with_reducible refine Hp.ld H ?_); refine ⟨rfl, ?_⟩; refine ⟨c_look rfl, ?_⟩; refine ⟨_, _, rfl, ?_⟩; ((repeat ((fail_if_success refine ⟨_, _, _, .z, ?_⟩); refine hs ?_)); refine ⟨_, _, _, .z, ?_⟩); refine ⟨_, rfl, ?_⟩; go_frame) | (fail))
    go_ret
    refine ⟨ret_bool ?_, H.below⟩
    exact (decide_eq_false (fun e => hlen (by rw [e]))).symm
theorem eqRps_v {A B : Option Addr} {c d k j : Nat} {l m : List Rp} {b : Bool} {w : World} (hb : rpsEq l m = b) (hk : k = l.length) (hj : j = m.length) (hA : RRp w A l) (hB : RRp w B m) (hkc : k ≤ c) (hl : c ≤ maxLen) (hjd : j ≤ d) (hm : d ≤ maxLen) :
    Calls Tryd.prog 46 #[.slice A k c, .slice B j d] w (RetV w (.bool b)) := by
  subst hb hk hj
  exact eqRps_any A B c d l m w hA hB (Nat.le_trans hkc hl) (Nat.le_trans hjd hm)
theorem eqBys_v {A B : Option Addr} {c d k j : Nat} {l m : List UInt8} {b : Bool} {w : World} (hb : eqB l m = b) (hk : k = l.length) (hj : j = m.length) (hA : Rd w A l) (hB : Rd w B m) (hkc : k ≤ c) (hl : c ≤ maxLen) (hjd : j ≤ d) (hm : d ≤ maxLen) :
    Calls Tryd.prog 47 #[.slice A k c, .slice B j d] w (RetV w (.bool b)) := by
  subst hb hk hj
  exact eqBys_any A B c d l m w hA hB (Nat.le_trans hkc hl) (Nat.le_trans hjd hm)
end Go.Proofs.YtiieakndjheknaaDoor

/-
  THE WALK OF message.Same: lists that are unlike.
-/
namespace Go.Proofs.YtiieakndjheknaaDoor
set_option maxRecDepth 100000
open Go.RowKit
set_option linter.unusedVariables false
set_option linter.unusedSimpArgs false
set_option maxHeartbeats 8000000 in
theorem msame_r (a b : Mg) (ra rb : List Rp) (la lb : List UInt8) (w : World) (hA : MgR w a ra la) (hB : MgR w b rb lb) (e1 : rpsEq ra rb = false) :
    Calls Tryd.prog 31 #[.agg (mgC a).toArray, .agg (mgC b).toArray] w (RetV w (.bool (sameM a ra la b rb lb))) := by
  have e2 := True.intro
  have g3 := True.intro
  have g4 := True.intro
  have g5 := True.intro
  rcases ch7 (a.k == b.k) (a.fr == b.fr) (a.to == b.to) (balEq a.br a.bp b.br b.bp) (a.ix == b.ix) (a.cm == b.cm) (a.nc == b.nc) with f0 | ⟨f0, f1⟩ | ⟨f0, f1, f2⟩ | ⟨f0, f1, f2, f3⟩ | ⟨f0, f1, f2, f3, f4⟩ | ⟨f0, f1, f2, f3, f4, f5⟩ | ⟨f0, f1, f2, f3, f4, f5, f6⟩ | ⟨f0, f1, f2, f3, f4, f5, f6⟩
  · have f3 := True.intro
    have H := Hp.nil w; go_enter Tryd.func31, Tryd.ntmps31; (first | simp only [List.append_eq, List.cons_append, List.nil_append] | skip); go_wp2_with (first | ((with_reducible refine Hp.box H ?_); (first | refine ⟨rfl, mgC a, rfl, ?_⟩ | refine ⟨rfl, mgC b, rfl, ?_⟩); (clear H; intro g1 w1 H); go_frame) | ((with_reducible refine Hp.ld H ?_); refine ⟨rfl, ?_⟩; refine ⟨c_look rfl, ?_⟩; refine ⟨_, _, rfl, ?_⟩; (first | refine ⟨_, _, _, .z, ?_⟩ | refine ⟨_, _, _, .s .z, ?_⟩); refine ⟨_, rfl, ?_⟩; go_frame) | ((with_reducible refine Hp.lda H ?_); refine ⟨rfl, by kernel_rfl, ?_⟩; refine ⟨_, s_look rfl, ?_⟩; refine ⟨_, rfl, ?_⟩; (first | refine ⟨_, _, _, .z, ?_⟩ | refine ⟨_, _, _, .s .z, ?_⟩); refine ⟨rfl, ?_⟩; go_frame) | ((with_reducible refine Hp.lds H ?_); refine ⟨rfl, by kernel_rfl, ?_⟩; refine ⟨_, s_look rfl, ?_⟩; refine ⟨_, _, rfl, ?_⟩; (first | refine ⟨_, _, _, .z, ?_⟩ | refine ⟨_, _, _, .s .z, ?_⟩); (first | refine ⟨baC a.br a.bp, rfl, rfl, ?_⟩ | refine ⟨baC b.br b.bp, rfl, rfl, ?_⟩ | refine ⟨enC a.e, rfl, rfl, ?_⟩ | refine ⟨enC b.e, rfl, rfl, ?_⟩ | refine ⟨opC a.ok a.o0 a.o1 a.o2, rfl, rfl, ?_⟩ | refine ⟨opC b.ok b.o0 b.o1 b.o2, rfl, rfl, ?_⟩ | refine ⟨reC a.re a.rf a.rv, rfl, rfl, ?_⟩ | refine ⟨reC b.re b.rf b.rv, rfl, rfl, ?_⟩); go_frame) | ((with_reducible refine (eqRps_v e1 hA.n1 hB.n1 (hA.rr.below H.below) (hB.rr.below H.below) hA.le hA.mx hB.le hB.mx).mono ?_); rintro _ w1 ⟨rfl, hb⟩; replace H := H.call hb; clear hb) | ((with_reducible refine (eqBys_v e2 hA.n2 hB.n2 (hA.yr.below H.below) (hB.yr.below H.below) hA.yl hA.ym hB.yl hB.ym).mono ?_); rintro _ w1 ⟨rfl, hb⟩; replace H := H.call hb; clear hb) | ((with_reducible refine wB_eqBa ?_); refine ⟨rfl, _, _, _, _, rfl, rfl, _, f3, ?_⟩; go_frame) | ((with_reducible refine wB_eqEn ?_); refine ⟨rfl, _, _, rfl, rfl, _, g3, ?_⟩; go_frame) | ((with_reducible refine wB_eqOp ?_); refine ⟨rfl, _, _, _, _, _, _, _, _, rfl, rfl, _, g4, ?_⟩; go_frame) | ((with_reducible refine wB_eqRe ?_); refine ⟨rfl, _, _, _, _, _, _, rfl, rfl, _, g5, ?_⟩; go_frame)); go_ret; exact ⟨ret_bool (by unfold sameM; simp [*]), H.below⟩
  · have f3 := True.intro
    have H := Hp.nil w; go_enter Tryd.func31, Tryd.ntmps31; (first | simp only [List.append_eq, List.cons_append, List.nil_append] | skip); go_wp2_with (first | ((with_reducible refine Hp.box H ?_); (first | refine ⟨rfl, mgC a, rfl, ?_⟩ | refine ⟨rfl, mgC b, rfl, ?_⟩); (clear H; intro g1 w1 H); go_frame) | ((with_reducible refine Hp.ld H ?_); refine ⟨rfl, ?_⟩; refine ⟨c_look rfl, ?_⟩; refine ⟨_, _, rfl, ?_⟩; (first | refine ⟨_, _, _, .z, ?_⟩ | refine ⟨_, _, _, .s .z, ?_⟩); refine ⟨_, rfl, ?_⟩; go_frame) | ((with_reducible refine Hp.lda H ?_); refine ⟨rfl, by kernel_rfl, ?_⟩; refine ⟨_, s_look rfl, ?_⟩; refine ⟨_, rfl, ?_⟩; (first | refine ⟨_, _, _, .z, ?_⟩ | refine ⟨_, _, _, .s .z, ?_⟩); refine ⟨rfl, ?_⟩; go_frame) | ((with_reducible refine Hp.lds H ?_); refine ⟨rfl, by kernel_rfl, ?_⟩; refine ⟨_, s_look rfl, ?_⟩; refine ⟨_, _, rfl, ?_⟩; (first | refine ⟨_, _, _, .z, ?_⟩ | refine ⟨_, _, _, .s .z, ?_⟩); (first | refine ⟨baC a.br a.bp, rfl, rfl, ?_⟩ | refine ⟨baC b.br b.bp, rfl, rfl, ?_⟩ | refine ⟨enC a.e, rfl, rfl, ?_⟩ | refine ⟨enC b.e, rfl, rfl, ?_⟩ | refine ⟨opC a.ok a.o0 a.o1 a.o2, rfl, rfl, ?_⟩ | refine ⟨opC b.ok b.o0 b.o1 b.o2, rfl, rfl, ?_⟩ | refine ⟨reC a.re a.rf a.rv, rfl, rfl, ?_⟩ | refine ⟨reC b.re b.rf b.rv, rfl, rfl, ?_⟩); go_frame) | ((with_reducible refine (eqRps_v e1 hA.n1 hB.n1 (hA.rr.below H.below) (hB.rr.below H.below) hA.le hA.mx hB.le hB.mx).mono ?_); rintro _ w1 ⟨rfl, hb⟩; replace H := H.call hb; clear hb) | ((with_reducible refine (eqBys_v e2 hA.n2 hB.n2 (hA.yr.below H.below) (hB.yr.below H.below) hA.yl hA.ym hB.yl hB.ym).mono ?_); rintro _ w1 ⟨rfl, hb⟩; replace H := H.call hb; clear hb) | ((with_reducible refine wB_eqBa ?_); refine ⟨rfl, _, _, _, _, rfl, rfl, _, f3, ?_⟩; go_frame) | ((with_reducible refine wB_eqEn ?_); refine ⟨rfl, _, _, rfl, rfl, _, g3, ?_⟩; go_frame) | ((with_reducible refine wB_eqOp ?_); refine ⟨rfl, _, _, _, _, _, _, _, _, rfl, rfl, _, g4, ?_⟩; go_frame) | ((with_reducible refine wB_eqRe ?_); refine ⟨rfl, _, _, _, _, _, _, rfl, rfl, _, g5, ?_⟩; go_frame)); go_ret; exact ⟨ret_bool (by unfold sameM; simp [*]), H.below⟩
  · have f3 := True.intro
    have H := Hp.nil w; go_enter Tryd.func31, Tryd.ntmps31; (first | simp only [List.append_eq, List.cons_append, List.nil_append] | skip); go_wp2_with (first | ((with_reducible refine Hp.box H ?_); (first | refine ⟨rfl, mgC a, rfl, ?_⟩ | refine ⟨rfl, mgC b, rfl, ?_⟩); (clear H; intro g1 w1 H); go_frame) | ((with_reducible refine Hp.ld H ?_); refine ⟨rfl, ?_⟩; refine ⟨c_look rfl, ?_⟩; refine ⟨_, _, rfl, ?_⟩; (first | refine ⟨_, _, _, .z, ?_⟩ | refine ⟨_, _, _, .s .z, ?_⟩); refine ⟨_, rfl, ?_⟩; go_frame) | ((with_reducible refine Hp.lda H ?_); refine ⟨rfl, by kernel_rfl, ?_⟩; refine ⟨_, s_look rfl, ?_⟩; refine ⟨_, rfl, ?_⟩; (first | refine ⟨_, _, _, .z, ?_⟩ | refine ⟨_, _, _, .s .z, ?_⟩); refine ⟨rfl, ?_⟩; go_frame) | ((with_reducible refine Hp.lds H ?_); refine ⟨rfl, by kernel_rfl, ?_⟩; refine ⟨_, s_look rfl, ?_⟩; refine ⟨_, _, rfl, ?_⟩; (first | refine ⟨_, _, _, .z, ?_⟩ | refine ⟨_, _, _, .s .z, ?_⟩); (first | refine ⟨baC a.br a.bp, rfl, rfl, ?_⟩ | refine ⟨baC b.br b.bp, rfl, rfl, ?_⟩ | refine ⟨enC a.e, rfl, rfl, ?_⟩ | refine ⟨enC b.e, rfl, rfl, ?_⟩ | refine ⟨opC a.ok a.o0 a.o1 a.o2, rfl, rfl, ?_⟩ | refine ⟨opC b.ok b.o0 b.o1 b.o2, rfl, rfl, ?_⟩ | refine ⟨reC a.re a.rf a.rv, rfl, rfl, ?_⟩ | refine ⟨reC b.re b.rf b.rv, rfl, rfl, ?_⟩); go_frame) | ((with_reducible refine (eqRps_v e1 hA.n1 hB.n1 (hA.rr.below H.below) (hB.rr.below H.below) hA.le hA.mx hB.le hB.mx).mono ?_); rintro _ w1 ⟨rfl, hb⟩; replace H := H.call hb; clear hb) | ((with_reducible refine (eqBys_v e2 hA.n2 hB.n2 (hA.yr.below H.below) (hB.yr.below H.below) hA.yl hA.ym hB.yl hB.ym).mono ?_); rintro _ w1 ⟨rfl, hb⟩; replace H := H.call hb; clear hb) | ((with_reducible refine wB_eqBa ?_); refine ⟨rfl, _, _, _, _, rfl, rfl, _, f3, ?_⟩; go_frame) | ((with_reducible refine wB_eqEn ?_); refine ⟨rfl, _, _, rfl, rfl, _, g3, ?_⟩; go_frame) | ((with_reducible refine wB_eqOp ?_); refine ⟨rfl, _, _, _, _, _, _, _, _, rfl, rfl, _, g4, ?_⟩; go_frame) | ((with_reducible refine wB_eqRe ?_); refine ⟨rfl, _, _, _, _, _, _, rfl, rfl, _, g5, ?_⟩; go_frame)); go_ret; exact ⟨ret_bool (by unfold sameM; simp [*]), H.below⟩
  · have H := Hp.nil w; go_enter Tryd.func31, Tryd.ntmps31; (first | simp only [List.append_eq, List.cons_append, List.nil_append] | skip); go_wp2_with (first | ((with_reducible refine Hp.box H ?_); (first | refine ⟨rfl, mgC a, rfl, ?_⟩ | refine ⟨rfl, mgC b, rfl, ?_⟩); (clear H; intro g1 w1 H); go_frame) | ((with_reducible refine Hp.ld H ?_); refine ⟨rfl, ?_⟩; refine ⟨c_look rfl, ?_⟩; refine ⟨_, _, rfl, ?_⟩; (first | refine ⟨_, _, _, .z, ?_⟩ | refine ⟨_, _, _, .s .z, ?_⟩); refine ⟨_, rfl, ?_⟩; go_frame) | ((with_reducible refine Hp.lda H ?_); refine ⟨rfl, by kernel_rfl, ?_⟩; refine ⟨_, s_look rfl, ?_⟩; refine ⟨_, rfl, ?_⟩; (first | refine ⟨_, _, _, .z, ?_⟩ | refine ⟨_, _, _, .s .z, ?_⟩); refine ⟨rfl, ?_⟩; go_frame) | ((with_reducible refine Hp.lds H ?_); refine ⟨rfl, by kernel_rfl, ?_⟩; refine ⟨_, s_look rfl, ?_⟩; refine ⟨_, _, rfl, ?_⟩; (first | refine ⟨_, _, _, .z, ?_⟩ | refine ⟨_, _, _, .s .z, ?_⟩); (first | refine ⟨baC a.br a.bp, rfl, rfl, ?_⟩ | refine ⟨baC b.br b.bp, rfl, rfl, ?_⟩ | refine ⟨enC a.e, rfl, rfl, ?_⟩ | refine ⟨enC b.e, rfl, rfl, ?_⟩ | refine ⟨opC a.ok a.o0 a.o1 a.o2, rfl, rfl, ?_⟩ | refine ⟨opC b.ok b.o0 b.o1 b.o2, rfl, rfl, ?_⟩ | refine ⟨reC a.re a.rf a.rv, rfl, rfl, ?_⟩ | refine ⟨reC b.re b.rf b.rv, rfl, rfl, ?_⟩); go_frame) | ((with_reducible refine (eqRps_v e1 hA.n1 hB.n1 (hA.rr.below H.below) (hB.rr.below H.below) hA.le hA.mx hB.le hB.mx).mono ?_); rintro _ w1 ⟨rfl, hb⟩; replace H := H.call hb; clear hb) | ((with_reducible refine (eqBys_v e2 hA.n2 hB.n2 (hA.yr.below H.below) (hB.yr.below H.below) hA.yl hA.ym hB.yl hB.ym).mono ?_); rintro _ w1 ⟨rfl, hb⟩; replace H := H.call hb; clear hb) | ((with_reducible refine wB_eqBa ?_); refine ⟨rfl, _, _, _, _, rfl, rfl, _, f3, ?_⟩; go_frame) | ((with_reducible refine wB_eqEn ?_); refine ⟨rfl, _, _, rfl, rfl, _, g3, ?_⟩; go_frame) | ((with_reducible refine wB_eqOp ?_); refine ⟨rfl, _, _, _, _, _, _, _, _, rfl, rfl, _, g4, ?_⟩; go_frame) | ((with_reducible refine wB_eqRe ?_); refine ⟨rfl, _, _, _, _, _, _, rfl, rfl, _, g5, ?_⟩; go_frame)); go_ret; exact ⟨ret_bool (by unfold sameM; simp [*]), H.below⟩
  · have H := Hp.nil w; go_enter Tryd.func31, Tryd.ntmps31; (first | simp only [List.append_eq, List.cons_append, List.nil_append] | skip); go_wp2_with (first | ((with_reducible refine Hp.box H ?_); (first | refine ⟨rfl, mgC a, rfl, ?_⟩ | refine ⟨rfl, mgC b, rfl, ?_⟩); (clear H; intro g1 w1 H); go_frame) | ((with_reducible refine Hp.ld H ?_); refine ⟨rfl, ?_⟩; refine ⟨c_look rfl, ?_⟩; refine ⟨_, _, rfl, ?_⟩; (first | refine ⟨_, _, _, .z, ?_⟩ | refine ⟨_, _, _, .s .z, ?_⟩); refine ⟨_, rfl, ?_⟩; go_frame) | ((with_reducible refine Hp.lda H ?_); refine ⟨rfl, by kernel_rfl, ?_⟩; refine ⟨_, s_look rfl, ?_⟩; refine ⟨_, rfl, ?_⟩; (first | refine ⟨_, _, _, .z, ?_⟩ | refine ⟨_, _, _, .s .z, ?_⟩); refine ⟨rfl, ?_⟩; go_frame) | ((with_reducible refine Hp.lds H ?_); refine ⟨rfl, by kernel_rfl, ?_⟩; refine ⟨_, s_look rfl, ?_⟩; refine ⟨_, _, rfl, ?_⟩; (first | refine ⟨_, _, _, .z, ?_⟩ | refine ⟨_, _, _, .s .z, ?_⟩); (first | refine ⟨baC a.br a.bp, rfl, rfl, ?_⟩ | refine ⟨baC b.br b.bp, rfl, rfl, ?_⟩ | refine ⟨enC a.e, rfl, rfl, ?_⟩ | refine ⟨enC b.e, rfl, rfl, ?_⟩ | refine ⟨opC a.ok a.o0 a.o1 a.o2, rfl, rfl, ?_⟩ | refine ⟨opC b.ok b.o0 b.o1 b.o2, rfl, rfl, ?_⟩ | refine ⟨reC a.re a.rf a.rv, rfl, rfl, ?_⟩ | refine ⟨reC b.re b.rf b.rv, rfl, rfl, ?_⟩); go_frame) | ((with_reducible refine (eqRps_v e1 hA.n1 hB.n1 (hA.rr.below H.below) (hB.rr.below H.below) hA.le hA.mx hB.le hB.mx).mono ?_); rintro _ w1 ⟨rfl, hb⟩; replace H := H.call hb; clear hb) | ((with_reducible refine (eqBys_v e2 hA.n2 hB.n2 (hA.yr.below H.below) (hB.yr.below H.below) hA.yl hA.ym hB.yl hB.ym).mono ?_); rintro _ w1 ⟨rfl, hb⟩; replace H := H.call hb; clear hb) | ((with_reducible refine wB_eqBa ?_); refine ⟨rfl, _, _, _, _, rfl, rfl, _, f3, ?_⟩; go_frame) | ((with_reducible refine wB_eqEn ?_); refine ⟨rfl, _, _, rfl, rfl, _, g3, ?_⟩; go_frame) | ((with_reducible refine wB_eqOp ?_); refine ⟨rfl, _, _, _, _, _, _, _, _, rfl, rfl, _, g4, ?_⟩; go_frame) | ((with_reducible refine wB_eqRe ?_); refine ⟨rfl, _, _, _, _, _, _, rfl, rfl, _, g5, ?_⟩; go_frame)); go_ret; exact ⟨ret_bool (by unfold sameM; simp [*]), H.below⟩
  · have H := Hp.nil w; go_enter Tryd.func31, Tryd.ntmps31; (first | simp only [List.append_eq, List.cons_append, List.nil_append] | skip); go_wp2_with (first | ((with_reducible refine Hp.box H ?_); (first | refine ⟨rfl, mgC a, rfl, ?_⟩ | refine ⟨rfl, mgC b, rfl, ?_⟩); (clear H; intro g1 w1 H); go_frame) | ((with_reducible refine Hp.ld H ?_); refine ⟨rfl, ?_⟩; refine ⟨c_look rfl, ?_⟩; refine ⟨_, _, rfl, ?_⟩; (first | refine ⟨_, _, _, .z, ?_⟩ | refine ⟨_, _, _, .s .z, ?_⟩); refine ⟨_, rfl, ?_⟩; go_frame) | ((with_reducible refine Hp.lda H ?_); refine ⟨rfl, by kernel_rfl, ?_⟩; refine ⟨_, s_look rfl, ?_⟩; refine ⟨_, rfl, ?_⟩; (first | refine ⟨_, _, _, .z, ?_⟩ | refine ⟨_, _, _, .s .z, ?_⟩); refine ⟨rfl, ?_⟩; go_frame) | ((with_reducible refine Hp.lds H ?_); refine ⟨rfl, by kernel_rfl, ?_⟩; refine ⟨_, s_look rfl, ?_⟩; refine ⟨_, _, rfl, ?_⟩; (first | refine ⟨_, _, _, .z, ?_⟩ | refine ⟨_, _, _, .s .z, ?_⟩); (first | refine ⟨baC a.br a.bp, rfl, rfl, ?_⟩ | refine ⟨baC b.br b.bp, rfl, rfl, ?_⟩ | refine ⟨enC a.e, rfl, rfl, ?_⟩ | refine ⟨enC b.e, rfl, rfl, ?_⟩ | refine ⟨opC a.ok a.o0 a.o1 a.o2, rfl, rfl, ?_⟩ | refine ⟨opC b.ok b.o0 b.o1 b.o2, rfl, rfl, ?_⟩ | refine ⟨reC a.re a.rf a.rv, rfl, rfl, ?_⟩ | refine ⟨reC b.re b.rf b.rv, rfl, rfl, ?_⟩); go_frame) | ((with_reducible refine (eqRps_v e1 hA.n1 hB.n1 (hA.rr.below H.below) (hB.rr.below H.below) hA.le hA.mx hB.le hB.mx).mono ?_); rintro _ w1 ⟨rfl, hb⟩; replace H := H.call hb; clear hb) | ((with_reducible refine (eqBys_v e2 hA.n2 hB.n2 (hA.yr.below H.below) (hB.yr.below H.below) hA.yl hA.ym hB.yl hB.ym).mono ?_); rintro _ w1 ⟨rfl, hb⟩; replace H := H.call hb; clear hb) | ((with_reducible refine wB_eqBa ?_); refine ⟨rfl, _, _, _, _, rfl, rfl, _, f3, ?_⟩; go_frame) | ((with_reducible refine wB_eqEn ?_); refine ⟨rfl, _, _, rfl, rfl, _, g3, ?_⟩; go_frame) | ((with_reducible refine wB_eqOp ?_); refine ⟨rfl, _, _, _, _, _, _, _, _, rfl, rfl, _, g4, ?_⟩; go_frame) | ((with_reducible refine wB_eqRe ?_); refine ⟨rfl, _, _, _, _, _, _, rfl, rfl, _, g5, ?_⟩; go_frame)); go_ret; exact ⟨ret_bool (by unfold sameM; simp [*]), H.below⟩
  · have H := Hp.nil w; go_enter Tryd.func31, Tryd.ntmps31; (first | simp only [List.append_eq, List.cons_append, List.nil_append] | skip); go_wp2_with (first | ((with_reducible refine Hp.box H ?_); (first | refine ⟨rfl, mgC a, rfl, ?_⟩ | refine ⟨rfl, mgC b, rfl, ?_⟩); (clear H; intro g1 w1 H); go_frame) | ((with_reducible refine Hp.ld H ?_); refine ⟨rfl, ?_⟩; refine ⟨c_look rfl, ?_⟩; refine ⟨_, _, rfl, ?_⟩; (first | refine ⟨_, _, _, .z, ?_⟩ | refine ⟨_, _, _, .s .z, ?_⟩); refine ⟨_, rfl, ?_⟩; go_frame) | ((with_reducible refine Hp.lda H ?_); refine ⟨rfl, by kernel_rfl, ?_⟩; refine ⟨_, s_look rfl, ?_⟩; refine ⟨_, rfl, ?_⟩; (first | refine ⟨_, _, _, .z, ?_⟩ | refine ⟨_, _, _, .s .z, ?_⟩); refine ⟨rfl, ?_⟩; go_frame) | ((with_reducible refine Hp.lds H ?_); refine ⟨rfl, by kernel_rfl, ?_⟩; refine ⟨_, s_look rfl, ?_⟩; refine ⟨_, _, rfl, ?_⟩; (first | refine ⟨_, _, _, .z, ?_⟩ | refine ⟨_, _, _, .s .z, ?_⟩); (first | refine ⟨baC a.br a.bp, rfl, rfl, ?_⟩ | refine ⟨baC b.br b.bp, rfl, rfl, ?_⟩ | refine ⟨enC a.e, rfl, rfl, ?_⟩ | refine ⟨enC b.e, rfl, rfl, ?_⟩ | refine ⟨opC a.ok a.o0 a.o1 a.o2, rfl, rfl, ?_⟩ | refine ⟨opC b.ok b.o0 b.o1 b.o2, rfl, rfl, ?_⟩ | refine ⟨reC a.re a.rf a.rv, rfl, rfl, ?_⟩ | refine ⟨reC b.re b.rf b.rv, rfl, rfl, ?_⟩); go_frame) | ((with_reducible refine (eqRps_v e1 hA.n1 hB.n1 (hA.rr.below H.below) (hB.rr.below H.below) hA.le hA.mx hB.le hB.mx).mono ?_); rintro _ w1 ⟨rfl, hb⟩; replace H := H.call hb; clear hb) | ((with_reducible refine (eqBys_v e2 hA.n2 hB.n2 (hA.yr.below H.below) (hB.yr.below H.below) hA.yl hA.ym hB.yl hB.ym).mono ?_); rintro _ w1 ⟨rfl, hb⟩; replace H := H.call hb; clear hb) | ((with_reducible refine wB_eqBa ?_); refine ⟨rfl, _, _, _, _, rfl, rfl, _, f3, ?_⟩; go_frame) | ((with_reducible refine wB_eqEn ?_); refine ⟨rfl, _, _, rfl, rfl, _, g3, ?_⟩; go_frame) | ((with_reducible refine wB_eqOp ?_); refine ⟨rfl, _, _, _, _, _, _, _, _, rfl, rfl, _, g4, ?_⟩; go_frame) | ((with_reducible refine wB_eqRe ?_); refine ⟨rfl, _, _, _, _, _, _, rfl, rfl, _, g5, ?_⟩; go_frame)); go_ret; exact ⟨ret_bool (by unfold sameM; simp [*]), H.below⟩
  · have H := Hp.nil w; go_enter Tryd.func31, Tryd.ntmps31; (first | simp only [List.append_eq, List.cons_append, List.nil_append] | skip); go_wp2_with (first | ((with_reducible refine Hp.box H ?_); (first | refine ⟨rfl, mgC a, rfl, ?_⟩ | refine ⟨rfl, mgC b, rfl, ?_⟩); (clear H; intro g1 w1 H); go_frame) | ((with_reducible refine Hp.ld H ?_); refine ⟨rfl, ?_⟩; refine ⟨c_look rfl, ?_⟩; refine ⟨_, _, rfl, ?_⟩; (first | refine ⟨_, _, _, .z, ?_⟩ | refine ⟨_, _, _, .s .z, ?_⟩); refine ⟨_, rfl, ?_⟩; go_frame) | ((with_reducible refine Hp.lda H ?_); refine ⟨rfl, by kernel_rfl, ?_⟩; refine ⟨_, s_look rfl, ?_⟩; refine ⟨_, rfl, ?_⟩; (first | refine ⟨_, _, _, .z, ?_⟩ | refine ⟨_, _, _, .s .z, ?_⟩); refine ⟨rfl, ?_⟩; go_frame) | ((with_reducible refine Hp.lds H ?_); refine ⟨rfl, by kernel_rfl, ?_⟩; refine ⟨_, s_look rfl, ?_⟩; refine ⟨_, _, rfl, ?_⟩; (first | refine ⟨_, _, _, .z, ?_⟩ | refine ⟨_, _, _, .s .z, ?_⟩); (first | refine ⟨baC a.br a.bp, rfl, rfl, ?_⟩ | refine ⟨baC b.br b.bp, rfl, rfl, ?_⟩ | refine ⟨enC a.e, rfl, rfl, ?_⟩ | refine ⟨enC b.e, rfl, rfl, ?_⟩ | refine ⟨opC a.ok a.o0 a.o1 a.o2, rfl, rfl, ?_⟩ | refine ⟨opC b.ok b.o0 b.o1 b.o2, rfl, rfl, ?_⟩ | refine ⟨reC a.re a.rf a.rv, rfl, rfl, ?_⟩ | refine ⟨reC b.re b.rf b.rv, rfl, rfl, ?_⟩); go_frame) | ((with_reducible refine (eqRps_v e1 hA.n1 hB.n1 (hA.rr.below H.below) (hB.rr.below H.below) hA.le hA.mx hB.le hB.mx).mono ?_); rintro _ w1 ⟨rfl, hb⟩; replace H := H.call hb; clear hb) | ((with_reducible refine (eqBys_v e2 hA.n2 hB.n2 (hA.yr.below H.below) (hB.yr.below H.below) hA.yl hA.ym hB.yl hB.ym).mono ?_); rintro _ w1 ⟨rfl, hb⟩; replace H := H.call hb; clear hb) | ((with_reducible refine wB_eqBa ?_); refine ⟨rfl, _, _, _, _, rfl, rfl, _, f3, ?_⟩; go_frame) | ((with_reducible refine wB_eqEn ?_); refine ⟨rfl, _, _, rfl, rfl, _, g3, ?_⟩; go_frame) | ((with_reducible refine wB_eqOp ?_); refine ⟨rfl, _, _, _, _, _, _, _, _, rfl, rfl, _, g4, ?_⟩; go_frame) | ((with_reducible refine wB_eqRe ?_); refine ⟨rfl, _, _, _, _, _, _, rfl, rfl, _, g5, ?_⟩; go_frame)); go_ret; exact ⟨ret_bool (by unfold sameM; simp [*]), H.below⟩
end Go.Proofs.YtiieakndjheknaaDoor

/-
  THE WALK OF message.Same: bytes that are unlike.
-/
namespace Go.Proofs.YtiieakndjheknaaDoor
set_option maxRecDepth 100000
open Go.RowKit
set_option linter.unusedVariables false
set_option linter.unusedSimpArgs false
set_option maxHeartbeats 8000000 in
theorem msame_y (a b : Mg) (ra rb : List Rp) (la lb : List UInt8) (w : World) (hA : MgR w a ra la) (hB : MgR w b rb lb) (e1 : rpsEq ra rb = true) (e2 : eqB la lb = false) :
    Calls Tryd.prog 31 #[.agg (mgC a).toArray, .agg (mgC b).toArray] w (RetV w (.bool (sameM a ra la b rb lb))) := by
  have g3 := True.intro
  have g4 := True.intro
  have g5 := True.intro
  rcases ch7 (a.k == b.k) (a.fr == b.fr) (a.to == b.to) (balEq a.br a.bp b.br b.bp) (a.ix == b.ix) (a.cm == b.cm) (a.nc == b.nc) with f0 | ⟨f0, f1⟩ | ⟨f0, f1, f2⟩ | ⟨f0, f1, f2, f3⟩ | ⟨f0, f1, f2, f3, f4⟩ | ⟨f0, f1, f2, f3, f4, f5⟩ | ⟨f0, f1, f2, f3, f4, f5, f6⟩ | ⟨f0, f1, f2, f3, f4, f5, f6⟩
  · have f3 := True.intro
    have H := Hp.nil w; go_enter Tryd.func31, Tryd.ntmps31; (first | simp only [List.append_eq, List.cons_append, List.nil_append] | skip); go_wp2_with (first | ((with_reducible refine Hp.box H ?_); (first | refine ⟨rfl, mgC a, rfl, ?_⟩ | refine ⟨rfl, mgC b, rfl, ?_⟩); (clear H; intro g1 w1 H); go_frame) | ((with_reducible refine Hp.ld H ?_); refine ⟨rfl, ?_⟩; refine ⟨c_look rfl, ?_⟩; refine ⟨_, _, rfl, ?_⟩; (first | refine ⟨_, _, _, .z, ?_⟩ | refine ⟨_, _, _, .s .z, ?_⟩); refine ⟨_, rfl, ?_⟩; go_frame) | ((with_reducible refine Hp.lda H ?_); refine ⟨rfl, by kernel_rfl, ?_⟩; refine ⟨_, s_look rfl, ?_⟩; refine ⟨_, rfl, ?_⟩; (first | refine ⟨_, _, _, .z, ?_⟩ | refine ⟨_, _, _, .s .z, ?_⟩); refine ⟨rfl, ?_⟩; go_frame) | ((with_reducible refine Hp.lds H ?_); refine ⟨rfl, by kernel_rfl, ?_⟩; refine ⟨_, s_look rfl, ?_⟩; refine ⟨_, _, rfl, ?_⟩; (first | refine ⟨_, _, _, .z, ?_⟩ | refine ⟨_, _, _, .s .z, ?_⟩); (first | refine ⟨baC a.br a.bp, rfl, rfl, ?_⟩ | refine ⟨baC b.br b.bp, rfl, rfl, ?_⟩ | refine ⟨enC a.e, rfl, rfl, ?_⟩ | refine ⟨enC b.e, rfl, rfl, ?_⟩ | refine ⟨opC a.ok a.o0 a.o1 a.o2, rfl, rfl, ?_⟩ | refine ⟨opC b.ok b.o0 b.o1 b.o2, rfl, rfl, ?_⟩ | refine ⟨reC a.re a.rf a.rv, rfl, rfl, ?_⟩ | refine ⟨reC b.re b.rf b.rv, rfl, rfl, ?_⟩); go_frame) | ((with_reducible refine (eqRps_v e1 hA.n1 hB.n1 (hA.rr.below H.below) (hB.rr.below H.below) hA.le hA.mx hB.le hB.mx).mono ?_); rintro _ w1 ⟨rfl, hb⟩; replace H := H.call hb; clear hb) | ((with_reducible refine (eqBys_v e2 hA.n2 hB.n2 (hA.yr.below H.below) (hB.yr.below H.below) hA.yl hA.ym hB.yl hB.ym).mono ?_); rintro _ w1 ⟨rfl, hb⟩; replace H := H.call hb; clear hb) | ((with_reducible refine wB_eqBa ?_); refine ⟨rfl, _, _, _, _, rfl, rfl, _, f3, ?_⟩; go_frame) | ((with_reducible refine wB_eqEn ?_); refine ⟨rfl, _, _, rfl, rfl, _, g3, ?_⟩; go_frame) | ((with_reducible refine wB_eqOp ?_); refine ⟨rfl, _, _, _, _, _, _, _, _, rfl, rfl, _, g4, ?_⟩; go_frame) | ((with_reducible refine wB_eqRe ?_); refine ⟨rfl, _, _, _, _, _, _, rfl, rfl, _, g5, ?_⟩; go_frame)); go_ret; exact ⟨ret_bool (by unfold sameM; simp [*]), H.below⟩
  · have f3 := True.intro
    have H := Hp.nil w; go_enter Tryd.func31, Tryd.ntmps31; (first | simp only [List.append_eq, List.cons_append, List.nil_append] | skip); go_wp2_with (first | ((with_reducible refine Hp.box H ?_); (first | refine ⟨rfl, mgC a, rfl, ?_⟩ | refine ⟨rfl, mgC b, rfl, ?_⟩); (clear H; intro g1 w1 H); go_frame) | ((with_reducible refine Hp.ld H ?_); refine ⟨rfl, ?_⟩; refine ⟨c_look rfl, ?_⟩; refine ⟨_, _, rfl, ?_⟩; (first | refine ⟨_, _, _, .z, ?_⟩ | refine ⟨_, _, _, .s .z, ?_⟩); refine ⟨_, rfl, ?_⟩; go_frame) | ((with_reducible refine Hp.lda H ?_); refine ⟨rfl, by kernel_rfl, ?_⟩; refine ⟨_, s_look rfl, ?_⟩; refine ⟨_, rfl, ?_⟩; (first | refine ⟨_, _, _, .z, ?_⟩ | refine ⟨_, _, _, .s .z, ?_⟩); refine ⟨rfl, ?_⟩; go_frame) | ((with_reducible refine Hp.lds H ?_); refine ⟨rfl, by kernel_rfl, ?_⟩; refine ⟨_, s_look rfl, ?_⟩; refine ⟨_, _, rfl, ?_⟩; (first | refine ⟨_, _, _, .z, ?_⟩ | refine ⟨_, _, _, .s .z, ?_⟩); (first | refine ⟨baC a.br a.bp, rfl, rfl, ?_⟩ | refine ⟨baC b.br b.bp, rfl, rfl, ?_⟩ | refine ⟨enC a.e, rfl, rfl, ?_⟩ | refine ⟨enC b.e, rfl, rfl, ?_⟩ | refine ⟨opC a.ok a.o0 a.o1 a.o2, rfl, rfl, ?_⟩ | refine ⟨opC b.ok b.o0 b.o1 b.o2, rfl, rfl, ?_⟩ | refine ⟨reC a.re a.rf a.rv, rfl, rfl, ?_⟩ | refine ⟨reC b.re b.rf b.rv, rfl, rfl, ?_⟩); go_frame) | ((with_reducible refine (eqRps_v e1 hA.n1 hB.n1 (hA.rr.below H.below) (hB.rr.below H.below) hA.le hA.mx hB.le hB.mx).mono ?_); rintro _ w1 ⟨rfl, hb⟩; replace H := H.call hb; clear hb) | ((with_reducible refine (eqBys_v e2 hA.n2 hB.n2 (hA.yr.below H.below) (hB.yr.below H.below) hA.yl hA.ym hB.yl hB.ym).mono ?_); rintro _ w1 ⟨rfl, hb⟩; replace H := H.call hb; clear hb) | ((with_reducible refine wB_eqBa ?_); refine ⟨rfl, _, _, _, _, rfl, rfl, _, f3, ?_⟩; go_frame) | ((with_reducible refine wB_eqEn ?_); refine ⟨rfl, _, _, rfl, rfl, _, g3, ?_⟩; go_frame) | ((with_reducible refine wB_eqOp ?_); refine ⟨rfl, _, _, _, _, _, _, _, _, rfl, rfl, _, g4, ?_⟩; go_frame) | ((with_reducible refine wB_eqRe ?_); refine ⟨rfl, _, _, _, _, _, _, rfl, rfl, _, g5, ?_⟩; go_frame)); go_ret; exact ⟨ret_bool (by unfold sameM; simp [*]), H.below⟩
  · have f3 := True.intro
    have H := Hp.nil w; go_enter Tryd.func31, Tryd.ntmps31; (first | simp only [List.append_eq, List.cons_append, List.nil_append] | skip); go_wp2_with (first | ((with_reducible refine Hp.box H ?_); (first | refine ⟨rfl, mgC a, rfl, ?_⟩ | refine ⟨rfl, mgC b, rfl, ?_⟩); (clear H; intro g1 w1 H); go_frame) | ((with_reducible refine Hp.ld H ?_); refine ⟨rfl, ?_⟩; refine ⟨c_look rfl, ?_⟩; refine ⟨_, _, rfl, ?_⟩; (first | refine ⟨_, _, _, .z, ?_⟩ | refine ⟨_, _, _, .s .z, ?_⟩); refine ⟨_, rfl, ?_⟩; go_frame) | ((with_reducible refine Hp.lda H ?_); refine ⟨rfl, by kernel_rfl, ?_⟩; refine ⟨_, s_look rfl, ?_⟩; refine ⟨_, rfl, ?_⟩; (first | refine ⟨_, _, _, .z, ?_⟩ | refine ⟨_, _, _, .s .z, ?_⟩); refine ⟨rfl, ?_⟩; go_frame) | ((with_reducible refine Hp.lds H ?_); refine ⟨rfl, by kernel_rfl, ?_⟩; refine ⟨_, s_look rfl, ?_⟩; refine ⟨_, _, rfl, ?_⟩; (first | refine ⟨_, _, _, .z, ?_⟩ | refine ⟨_, _, _, .s .z, ?_⟩); (first | refine ⟨baC a.br a.bp, rfl, rfl, ?_⟩ | refine ⟨baC b.br b.bp, rfl, rfl, ?_⟩ | refine ⟨enC a.e, rfl, rfl, ?_⟩ | refine ⟨enC b.e, rfl, rfl, ?_⟩ | refine ⟨opC a.ok a.o0 a.o1 a.o2, rfl, rfl, ?_⟩ | refine ⟨opC b.ok b.o0 b.o1 b.o2, rfl, rfl, ?_⟩ | refine ⟨reC a.re a.rf a.rv, rfl, rfl, ?_⟩ | refine ⟨reC b.re b.rf b.rv, rfl, rfl, ?_⟩); go_frame) | ((with_reducible refine (eqRps_v e1 hA.n1 hB.n1 (hA.rr.below H.below) (hB.rr.below H.below) hA.le hA.mx hB.le hB.mx).mono ?_); rintro _ w1 ⟨rfl, hb⟩; replace H := H.call hb; clear hb) | ((with_reducible refine (eqBys_v e2 hA.n2 hB.n2 (hA.yr.below H.below) (hB.yr.below H.below) hA.yl hA.ym hB.yl hB.ym).mono ?_); rintro _ w1 ⟨rfl, hb⟩; replace H := H.call hb; clear hb) | ((with_reducible refine wB_eqBa ?_); refine ⟨rfl, _, _, _, _, rfl, rfl, _, f3, ?_⟩; go_frame) | ((with_reducible refine wB_eqEn ?_); refine ⟨rfl, _, _, rfl, rfl, _, g3, ?_⟩; go_frame) | ((with_reducible refine wB_eqOp ?_); refine ⟨rfl, _, _, _, _, _, _, _, _, rfl, rfl, _, g4, ?_⟩; go_frame) | ((with_reducible refine wB_eqRe ?_); refine ⟨rfl, _, _, _, _, _, _, rfl, rfl, _, g5, ?_⟩; go_frame)); go_ret; exact ⟨ret_bool (by unfold sameM; simp [*]), H.below⟩
  · have H := Hp.nil w; go_enter Tryd.func31, Tryd.ntmps31; (first | simp only [List.append_eq, List.cons_append, List.nil_append] | skip); go_wp2_with (first | ((with_reducible refine Hp.box H ?_); (first | refine ⟨rfl, mgC a, rfl, ?_⟩ | refine ⟨rfl, mgC b, rfl, ?_⟩); (clear H; intro g1 w1 H); go_frame) | ((with_reducible refine Hp.ld H ?_); refine ⟨rfl, ?_⟩; refine ⟨c_look rfl, ?_⟩; refine ⟨_, _, rfl, ?_⟩; (first | refine ⟨_, _, _, .z, ?_⟩ | refine ⟨_, _, _, .s .z, ?_⟩); refine ⟨_, rfl, ?_⟩; go_frame) | ((with_reducible refine Hp.lda H ?_); refine ⟨rfl, by kernel_rfl, ?_⟩; refine ⟨_, s_look rfl, ?_⟩; refine ⟨_, rfl, ?_⟩; (first | refine ⟨_, _, _, .z, ?_⟩ | refine ⟨_, _, _, .s .z, ?_⟩); refine ⟨rfl, ?_⟩; go_frame) | ((with_reducible refine Hp.lds H ?_); refine ⟨rfl, by kernel_rfl, ?_⟩; refine ⟨_, s_look rfl, ?_⟩; refine ⟨_, _, rfl, ?_⟩; (first | refine ⟨_, _, _, .z, ?_⟩ | refine ⟨_, _, _, .s .z, ?_⟩); (first | refine ⟨baC a.br a.bp, rfl, rfl, ?_⟩ | refine ⟨baC b.br b.bp, rfl, rfl, ?_⟩ | refine ⟨enC a.e, rfl, rfl, ?_⟩ | refine ⟨enC b.e, rfl, rfl, ?_⟩ | refine ⟨opC a.ok a.o0 a.o1 a.o2, rfl, rfl, ?_⟩ | refine ⟨opC b.ok b.o0 b.o1 b.o2, rfl, rfl, ?_⟩ | refine ⟨reC a.re a.rf a.rv, rfl, rfl, ?_⟩ | refine ⟨reC b.re b.rf b.rv, rfl, rfl, ?_⟩); go_frame) | ((with_reducible refine (eqRps_v e1 hA.n1 hB.n1 (hA.rr.below H.below) (hB.rr.below H.below) hA.le hA.mx hB.le hB.mx).mono ?_); rintro _ w1 ⟨rfl, hb⟩; replace H := H.call hb; clear hb) | ((with_reducible refine (eqBys_v e2 hA.n2 hB.n2 (hA.yr.below H.below) (hB.yr.below H.below) hA.yl hA.ym hB.yl hB.ym).mono ?_); rintro _ w1 ⟨rfl, hb⟩; replace H := H.call hb; clear hb) | ((with_reducible refine wB_eqBa ?_); refine ⟨rfl, _, _, _, _, rfl, rfl, _, f3, ?_⟩; go_frame) | ((with_reducible refine wB_eqEn ?_); refine ⟨rfl, _, _, rfl, rfl, _, g3, ?_⟩; go_frame) | ((with_reducible refine wB_eqOp ?_); refine ⟨rfl, _, _, _, _, _, _, _, _, rfl, rfl, _, g4, ?_⟩; go_frame) | ((with_reducible refine wB_eqRe ?_); refine ⟨rfl, _, _, _, _, _, _, rfl, rfl, _, g5, ?_⟩; go_frame)); go_ret; exact ⟨ret_bool (by unfold sameM; simp [*]), H.below⟩
  · have H := Hp.nil w; go_enter Tryd.func31, Tryd.ntmps31; (first | simp only [List.append_eq, List.cons_append, List.nil_append] | skip); go_wp2_with (first | ((with_reducible refine Hp.box H ?_); (first | refine ⟨rfl, mgC a, rfl, ?_⟩ | refine ⟨rfl, mgC b, rfl, ?_⟩); (clear H; intro g1 w1 H); go_frame) | ((with_reducible refine Hp.ld H ?_); refine ⟨rfl, ?_⟩; refine ⟨c_look rfl, ?_⟩; refine ⟨_, _, rfl, ?_⟩; (first | refine ⟨_, _, _, .z, ?_⟩ | refine ⟨_, _, _, .s .z, ?_⟩); refine ⟨_, rfl, ?_⟩; go_frame) | ((with_reducible refine Hp.lda H ?_); refine ⟨rfl, by kernel_rfl, ?_⟩; refine ⟨_, s_look rfl, ?_⟩; refine ⟨_, rfl, ?_⟩; (first | refine ⟨_, _, _, .z, ?_⟩ | refine ⟨_, _, _, .s .z, ?_⟩); refine ⟨rfl, ?_⟩; go_frame) | ((with_reducible refine Hp.lds H ?_); refine ⟨rfl, by kernel_rfl, ?_⟩; refine ⟨_, s_look rfl, ?_⟩; refine ⟨_, _, rfl, ?_⟩; (first | refine ⟨_, _, _, .z, ?_⟩ | refine ⟨_, _, _, .s .z, ?_⟩); (first | refine ⟨baC a.br a.bp, rfl, rfl, ?_⟩ | refine ⟨baC b.br b.bp, rfl, rfl, ?_⟩ | refine ⟨enC a.e, rfl, rfl, ?_⟩ | refine ⟨enC b.e, rfl, rfl, ?_⟩ | refine ⟨opC a.ok a.o0 a.o1 a.o2, rfl, rfl, ?_⟩ | refine ⟨opC b.ok b.o0 b.o1 b.o2, rfl, rfl, ?_⟩ | refine ⟨reC a.re a.rf a.rv, rfl, rfl, ?_⟩ | refine ⟨reC b.re b.rf b.rv, rfl, rfl, ?_⟩); go_frame) | ((with_reducible refine (eqRps_v e1 hA.n1 hB.n1 (hA.rr.below H.below) (hB.rr.below H.below) hA.le hA.mx hB.le hB.mx).mono ?_); rintro _ w1 ⟨rfl, hb⟩; replace H := H.call hb; clear hb) | ((with_reducible refine (eqBys_v e2 hA.n2 hB.n2 (hA.yr.below H.below) (hB.yr.below H.below) hA.yl hA.ym hB.yl hB.ym).mono ?_); rintro _ w1 ⟨rfl, hb⟩; replace H := H.call hb; clear hb) | ((with_reducible refine wB_eqBa ?_); refine ⟨rfl, _, _, _, _, rfl, rfl, _, f3, ?_⟩; go_frame) | ((with_reducible refine wB_eqEn ?_); refine ⟨rfl, _, _, rfl, rfl, _, g3, ?_⟩; go_frame) | ((with_reducible refine wB_eqOp ?_); refine ⟨rfl, _, _, _, _, _, _, _, _, rfl, rfl, _, g4, ?_⟩; go_frame) | ((with_reducible refine wB_eqRe ?_); refine ⟨rfl, _, _, _, _, _, _, rfl, rfl, _, g5, ?_⟩; go_frame)); go_ret; exact ⟨ret_bool (by unfold sameM; simp [*]), H.below⟩
  · have H := Hp.nil w; go_enter Tryd.func31, Tryd.ntmps31; (first | simp only [List.append_eq, List.cons_append, List.nil_append] | skip); go_wp2_with (first | ((with_reducible refine Hp.box H ?_); (first | refine ⟨rfl, mgC a, rfl, ?_⟩ | refine ⟨rfl, mgC b, rfl, ?_⟩); (clear H; intro g1 w1 H); go_frame) | ((with_reducible refine Hp.ld H ?_); refine ⟨rfl, ?_⟩; refine ⟨c_look rfl, ?_⟩; refine ⟨_, _, rfl, ?_⟩; (first | refine ⟨_, _, _, .z, ?_⟩ | refine ⟨_, _, _, .s .z, ?_⟩); refine ⟨_, rfl, ?_⟩; go_frame) | ((with_reducible refine Hp.lda H ?_); refine ⟨rfl, by kernel_rfl, ?_⟩; refine ⟨_, s_look rfl, ?_⟩; refine ⟨_, rfl, ?_⟩; (first | refine ⟨_, _, _, .z, ?_⟩ | refine ⟨_, _, _, .s .z, ?_⟩); refine ⟨rfl, ?_⟩; go_frame) | ((with_reducible refine Hp.lds H ?_); refine ⟨rfl, by kernel_rfl, ?_⟩; refine ⟨_, s_look rfl, ?_⟩; refine ⟨_, _, rfl, ?_⟩; (first | refine ⟨_, _, _, .z, ?_⟩ | refine ⟨_, _, _, .s .z, ?_⟩); (first | refine ⟨baC a.br a.bp, rfl, rfl, ?_⟩ | refine ⟨baC b.br b.bp, rfl, rfl, ?_⟩ | refine ⟨enC a.e, rfl, rfl, ?_⟩ | refine ⟨enC b.e, rfl, rfl, ?_⟩ | refine ⟨opC a.ok a.o0 a.o1 a.o2, rfl, rfl, ?_⟩ | refine ⟨opC b.ok b.o0 b.o1 b.o2, rfl, rfl, ?_⟩ | refine ⟨reC a.re a.rf a.rv, rfl, rfl, ?_⟩ | refine ⟨reC b.re b.rf b.rv, rfl, rfl, ?_⟩); go_frame) | ((with_reducible refine (eqRps_v e1 hA.n1 hB.n1 (hA.rr.below H.below) (hB.rr.below H.below) hA.le hA.mx hB.le hB.mx).mono ?_); rintro _ w1 ⟨rfl, hb⟩; replace H := H.call hb; clear hb) | ((with_reducible refine (eqBys_v e2 hA.n2 hB.n2 (hA.yr.below H.below) (hB.yr.below H.below) hA.yl hA.ym hB.yl hB.ym).mono ?_); rintro _ w1 ⟨rfl, hb⟩; replace H := H.call hb; clear hb) | ((with_reducible refine wB_eqBa ?_); refine ⟨rfl, _, _, _, _, rfl, rfl, _, f3, ?_⟩; go_frame) | ((with_reducible refine wB_eqEn ?_); refine ⟨rfl, _, _, rfl, rfl, _, g3, ?_⟩; go_frame) | ((with_reducible refine wB_eqOp ?_); refine ⟨rfl, _, _, _, _, _, _, _, _, rfl, rfl, _, g4, ?_⟩; go_frame) | ((with_reducible refine wB_eqRe ?_); refine ⟨rfl, _, _, _, _, _, _, rfl, rfl, _, g5, ?_⟩; go_frame)); go_ret; exact ⟨ret_bool (by unfold sameM; simp [*]), H.below⟩
  · have H := Hp.nil w; go_enter Tryd.func31, Tryd.ntmps31; (first | simp only [List.append_eq, List.cons_append, List.nil_append] | skip); go_wp2_with (first | ((with_reducible refine Hp.box H ?_); (first | refine ⟨rfl, mgC a, rfl, ?_⟩ | refine ⟨rfl, mgC b, rfl, ?_⟩); (clear H; intro g1 w1 H); go_frame) | ((with_reducible refine Hp.ld H ?_); refine ⟨rfl, ?_⟩; refine ⟨c_look rfl, ?_⟩; refine ⟨_, _, rfl, ?_⟩; (first | refine ⟨_, _, _, .z, ?_⟩ | refine ⟨_, _, _, .s .z, ?_⟩); refine ⟨_, rfl, ?_⟩; go_frame) | ((with_reducible refine Hp.lda H ?_); refine ⟨rfl, by kernel_rfl, ?_⟩; refine ⟨_, s_look rfl, ?_⟩; refine ⟨_, rfl, ?_⟩; (first | refine ⟨_, _, _, .z, ?_⟩ | refine ⟨_, _, _, .s .z, ?_⟩); refine ⟨rfl, ?_⟩; go_frame) | ((with_reducible refine Hp.lds H ?_); refine ⟨rfl, by kernel_rfl, ?_⟩; refine ⟨_, s_look rfl, ?_⟩; refine ⟨_, _, rfl, ?_⟩; (first | refine ⟨_, _, _, .z, ?_⟩ | refine ⟨_, _, _, .s .z, ?_⟩); (first | refine ⟨baC a.br a.bp, rfl, rfl, ?_⟩ | refine ⟨baC b.br b.bp, rfl, rfl, ?_⟩ | refine ⟨enC a.e, rfl, rfl, ?_⟩ | refine ⟨enC b.e, rfl, rfl, ?_⟩ | refine ⟨opC a.ok a.o0 a.o1 a.o2, rfl, rfl, ?_⟩ | refine ⟨opC b.ok b.o0 b.o1 b.o2, rfl, rfl, ?_⟩ | refine ⟨reC a.re a.rf a.rv, rfl, rfl, ?_⟩ | refine ⟨reC b.re b.rf b.rv, rfl, rfl, ?_⟩); go_frame) | ((with_reducible refine (eqRps_v e1 hA.n1 hB.n1 (hA.rr.below H.below) (hB.rr.below H.below) hA.le hA.mx hB.le hB.mx).mono ?_); rintro _ w1 ⟨rfl, hb⟩; replace H := H.call hb; clear hb) | ((with_reducible refine (eqBys_v e2 hA.n2 hB.n2 (hA.yr.below H.below) (hB.yr.below H.below) hA.yl hA.ym hB.yl hB.ym).mono ?_); rintro _ w1 ⟨rfl, hb⟩; replace H := H.call hb; clear hb) | ((with_reducible refine wB_eqBa ?_); refine ⟨rfl, _, _, _, _, rfl, rfl, _, f3, ?_⟩; go_frame) | ((with_reducible refine wB_eqEn ?_); refine ⟨rfl, _, _, rfl, rfl, _, g3, ?_⟩; go_frame) | ((with_reducible refine wB_eqOp ?_); refine ⟨rfl, _, _, _, _, _, _, _, _, rfl, rfl, _, g4, ?_⟩; go_frame) | ((with_reducible refine wB_eqRe ?_); refine ⟨rfl, _, _, _, _, _, _, rfl, rfl, _, g5, ?_⟩; go_frame)); go_ret; exact ⟨ret_bool (by unfold sameM; simp [*]), H.below⟩
  · have H := Hp.nil w; go_enter Tryd.func31, Tryd.ntmps31; (first | simp only [List.append_eq, List.cons_append, List.nil_append] | skip); go_wp2_with (first | ((with_reducible refine Hp.box H ?_); (first | refine ⟨rfl, mgC a, rfl, ?_⟩ | refine ⟨rfl, mgC b, rfl, ?_⟩); (clear H; intro g1 w1 H); go_frame) | ((with_reducible refine Hp.ld H ?_); refine ⟨rfl, ?_⟩; refine ⟨c_look rfl, ?_⟩; refine ⟨_, _, rfl, ?_⟩; (first | refine ⟨_, _, _, .z, ?_⟩ | refine ⟨_, _, _, .s .z, ?_⟩); refine ⟨_, rfl, ?_⟩; go_frame) | ((with_reducible refine Hp.lda H ?_); refine ⟨rfl, by kernel_rfl, ?_⟩; refine ⟨_, s_look rfl, ?_⟩; refine ⟨_, rfl, ?_⟩; (first | refine ⟨_, _, _, .z, ?_⟩ | refine ⟨_, _, _, .s .z, ?_⟩); refine ⟨rfl, ?_⟩; go_frame) | ((with_reducible refine Hp.lds H ?_); refine ⟨rfl, by kernel_rfl, ?_⟩; refine ⟨_, s_look rfl, ?_⟩; refine ⟨_, _, rfl, ?_⟩; (first | refine ⟨_, _, _, .z, ?_⟩ | refine ⟨_, _, _, .s .z, ?_⟩); (first | refine ⟨baC a.br a.bp, rfl, rfl, ?_⟩ | refine ⟨baC b.br b.bp, rfl, rfl, ?_⟩ | refine ⟨enC a.e, rfl, rfl, ?_⟩ | refine ⟨enC b.e, rfl, rfl, ?_⟩ | refine ⟨opC a.ok a.o0 a.o1 a.o2, rfl, rfl, ?_⟩ | refine ⟨opC b.ok b.o0 b.o1 b.o2, rfl, rfl, ?_⟩ | refine ⟨reC a.re a.rf a.rv, rfl, rfl, ?_⟩ | refine ⟨reC b.re b.rf b.rv, rfl, rfl, ?_⟩); go_frame) | ((with_reducible refine (eqRps_v e1 hA.n1 hB.n1 (hA.rr.below H.below) (hB.rr.below H.below) hA.le hA.mx hB.le hB.mx).mono ?_); rintro _ w1 ⟨rfl, hb⟩; replace H := H.call hb; clear hb) | ((with_reducible refine (eqBys_v e2 hA.n2 hB.n2 (hA.yr.below H.below) (hB.yr.below H.below) hA.yl hA.ym hB.yl hB.ym).mono ?_); rintro _ w1 ⟨rfl, hb⟩; replace H := H.call hb; clear hb) | ((with_reducible refine wB_eqBa ?_); refine ⟨rfl, _, _, _, _, rfl, rfl, _, f3, ?_⟩; go_frame) | ((with_reducible refine wB_eqEn ?_); refine ⟨rfl, _, _, rfl, rfl, _, g3, ?_⟩; go_frame) | ((with_reducible refine wB_eqOp ?_); refine ⟨rfl, _, _, _, _, _, _, _, _, rfl, rfl, _, g4, ?_⟩; go_frame) | ((with_reducible refine wB_eqRe ?_); refine ⟨rfl, _, _, _, _, _, _, rfl, rfl, _, g5, ?_⟩; go_frame)); go_ret; exact ⟨ret_bool (by unfold sameM; simp [*]), H.below⟩
end Go.Proofs.YtiieakndjheknaaDoor
