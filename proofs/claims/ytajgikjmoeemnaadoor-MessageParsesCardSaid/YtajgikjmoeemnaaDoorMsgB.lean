/-
  THE WALK OF message's reports.
-/
import Derived.Test.YtajgikjmoeemnaaDoorPk6
namespace Go.Proofs.YtajgikjmoeemnaaDoor
set_option maxRecDepth 100000
open Go.RowKit
set_option linter.unusedVariables false
set_option linter.unusedSimpArgs false
/-- is the report at a place as it may be there? -/
def stepB (rs : List Rp) (n : Int) (i : Nat) (x : Rp) : Bool := repB x n && ((i == 0) || decide ((rs.getD (i - 1) rp0).ix < x.ix))
theorem repsOk_iff (n : Int) : ∀ (rs : List Rp) (b : Int), repsOk b rs n = true ↔ ∀ i (h : i < rs.length), repB rs[i] n = true ∧ (if i = 0 then b else (rs.getD (i - 1) rp0).ix) < rs[i].ix
  | [], b => by simp [repsOk]
  | x :: l, b => by
    simp only [repsOk, Bool.and_eq_true, decide_eq_true_eq, repsOk_iff n l x.ix]
    constructor
    · rintro ⟨⟨h1, h2⟩, h3⟩ i hi
      cases i with
      | zero => exact ⟨h1, by simpa using h2⟩
      | succ i =>
        obtain ⟨h4, h5⟩ := h3 i (by simpa using hi)
        refine ⟨by simpa using h4, ?_⟩
        cases i with
        | zero => simpa using h5
        | succ i => simpa using h5
    · intro h
      have h00 : b < x.ix := (h 0 (by simp)).2
      refine ⟨⟨(h 0 (by simp)).1, h00⟩, fun i hi => ?_⟩
      obtain ⟨h4, h5⟩ := h (i + 1) (by simpa using hi)
      refine ⟨by simpa using h4, ?_⟩
      cases i with
      | zero => simpa using h5
      | succ i => simpa using h5
theorem repB_ix {x : Rp} {n : Int} (h : repB x n = true) : 1 ≤ x.ix := by
  simp only [repB, numB, Bool.and_eq_true, decide_eq_true_eq] at h
  exact h.1.1
theorem repsOk_step (rs : List Rp) (n : Int) : repsOk 0 rs n = true ↔ ∀ i (h : i < rs.length), stepB rs n i rs[i] = true := by
  rw [repsOk_iff]
  unfold stepB
  simp only [Bool.and_eq_true, Bool.or_eq_true, beq_iff_eq, decide_eq_true_eq]
  constructor
  · intro h i hi
    obtain ⟨h1, h2⟩ := h i hi
    refine ⟨h1, ?_⟩
    by_cases h0 : i = 0
    · exact .inl h0
    · rw [if_neg h0] at h2; exact .inr h2
  · intro h i hi
    obtain ⟨h1, h2⟩ := h i hi
    refine ⟨h1, ?_⟩
    by_cases h0 : i = 0
    · rw [if_pos h0]; have := repB_ix h1; omega
    · rw [if_neg h0]; exact h2.resolve_left h0
theorem repsB_no {rs : List Rp} {n : Int} {k : Nat} (hk : k < rs.length) (h : stepB rs n k rs[k] = false) : repsB rs n = false := by
  have : repsOk 0 rs n = false := by
    cases e : repsOk 0 rs n
    · rfl
    · rw [(repsOk_step rs n).1 e k hk] at h; cases h
  unfold repsB
  rw [this]
  rfl
/-- what a report has, of a state -/
def bareRp (x : Rp) : Rp := if x.st = 2 then x else if x.st = 3 then { x with e := en0 } else { x with r := 0, p := 0, e := en0 }
def goodRp (x : Rp) (n : Int) : Bool := if x.st = 2 then mayB x.e && balM x.r x.p n else if x.st = 3 then balM x.r x.p n else decide (x.st = 4)
theorem repB_eq (x : Rp) (n : Int) : repB x n = (goodRp x n && (rpEq x (bareRp x) && numB x.ix 1)) := by
  have hself : ∀ y, rpEq y y = true := fun y => rpEq_iff.2 rfl
  unfold repB goodRp bareRp
  by_cases h2 : x.st = 2
  · rw [if_pos h2, if_pos h2, hself, h2]
    cases numB x.ix 1 <;> cases mayB x.e <;> cases balM x.r x.p n <;> rfl
  · rw [if_neg h2, if_neg h2]
    have b2 : (x.st == 2) = false := beq_eq_false_iff_ne.mpr h2
    by_cases h3 : x.st = 3
    · rw [if_pos h3, if_pos h3]
      have : rpEq x { x with e := en0 } = enZ x.e := by unfold rpEq enZ; simp
      rw [this, b2, h3]
      cases numB x.ix 1 <;> cases enZ x.e <;> cases balM x.r x.p n <;> rfl
    · rw [if_neg h3, if_neg h3]
      have b3 : (x.st == 3) = false := beq_eq_false_iff_ne.mpr h3
      have : rpEq x { x with r := 0, p := 0, e := en0 } = (((x.r == 0) && (x.p == 0)) && enZ x.e) := by unfold rpEq enZ; simp
      rw [this, b2, b3]
      by_cases h4 : x.st = 4
      · rw [h4]; cases numB x.ix 1 <;> cases (((x.r == 0) && (x.p == 0)) && enZ x.e) <;> rfl
      · have b4 : (x.st == 4) = false := beq_eq_false_iff_ne.mpr h4
        rw [b4, decide_eq_false h4]
        cases numB x.ix 1 <;> rfl
theorem number_v {n least : Int} {b : Bool} (h : numB n least = b) (w : World) : Calls Tryd.prog 58 #[.int .i64 n, .int .i64 least] w (RetV w (.bool b)) := by
  subst h
  exact number_any n least w
theorem chosen_v {r p n : Int} {b : Bool} (h : balM r p n = b) (w : World) : Calls Tryd.prog 59 #[.agg (baC r p).toArray, .int .i64 n] w (RetV w (.bool b)) := by
  subst h
  exact chosen_any r p n w
theorem emay_v {e : En} {b : Bool} (hb : mayB e = b) (hs : Sm e) (w : World) : Calls Tryd.prog 60 #[.agg (enC e).toArray] w (RetV w (.bool b)) := by
  subst hb
  exact may_any e w hs
theorem b_rp2 (i s : Int) : Tryd.prog.built 55 [(0, .int .i64 i), (1, .int .u8 s)] = some (rpC ⟨i, s, 0, 0, en0⟩).toArray := by kernel_rfl
/-- the loop's relation -/
def PRel (w : World) (rs : List Rp) (n : Int) (v : Value) (wr : World) : Prop := ∃ k : Nat, k ≤ rs.length ∧ v = .int .i64 k ∧ (∀ i (h : i < rs.length), i < k → stepB rs n i rs[i] = true) ∧ Below w.heap.size w wr
set_option maxHeartbeats 8000000 in
theorem reports_any (A : Option Addr) (c : Nat) (rs : List Rp) (n : Int) (w : World) (hr : RRp w A rs) (hok : ∀ x ∈ rs, RpOk x) (hl : rs.length ≤ c) (hm0 : c ≤ maxLen) :
    Calls Tryd.prog 61 #[.slice A rs.length c, .int .i64 n] w (RetV w (.bool (repsB rs n))) := by
  have H := Hp.nil w
  have hm := True.intro
  have hc := True.intro
  have hrk := True.intro
  have hn := True.intro
  have hq := True.intro
  go_enter Tryd.func61, Tryd.ntmps61
  go_wp2_with (first | (fail))
  have hat : PRel w rs n (.int .i64 (0 : Nat)) w := ⟨0, Nat.zero_le _, rfl, fun i _ h => absurd h (by omega), Below.refl _ _⟩
  clear hm hc hrk hn hq H
  go_loopw [5, 6, 7, 8, 11] (fun _ _ _ _ v wr => PRel w rs n v wr) (fun _ _ _ _ v _ => rs.length - (intOf v).toNat)
  case atStart => exact hat
  case round =>
    clear hat
    obtain ⟨k, hk, rfl, hall, hb⟩ := hrel
    have HA := Lib.hid hall
    clear hall
    unfold maxLen at hm0
    have H : Hp w wr [] := (Hp.nil w).call hb
    by_cases hlt : k < rs.length
    · obtain ⟨b, o, rfl, hrow⟩ := hr (fun e => by subst e; simp at hlt)
      have hrk := hrow k hlt
      have HSM := Lib.hid (hok _ (List.getElem_mem hlt)).2.2.2.2.1
      obtain ⟨x, hxe⟩ : ∃ x, rs[k] = x := ⟨_, rfl⟩
      rw [hxe] at hrk HSM
      have HXE := Lib.hid hxe
      have hK := hlt
      clear hxe hb
      have hprev : ∀ j, k = j + 1 → w.cell? ⟨b, o + j * 11, none⟩ = some (.int .i64 (rs.getD (k - 1) rp0).ix) := by
        rintro j rfl
        have h := hrow j (by omega) 0 _ rfl
        rw [Nat.add_sub_cancel, List.getD_eq_getElem?_getD, List.getElem?_eq_getElem (by omega)]
        exact h
      have HPV := Lib.hid hprev
      clear hprev hrow
      obtain ⟨ix, st, xr, xp, e⟩ := x
      by_cases h2 : st = 2
      · subst h2
        cases hm : mayB e
        · have hc := True.intro
          have hq := True.intro
          have hn := True.intro
          go_wp2_with (first | ((with_reducible refine Hp.allo H ?_); refine ⟨rfl, ?_⟩; refine ⟨_, z_look rfl, ?_⟩; (clear H; intro g1 w1 H); go_frame) | ((with_reducible refine Hp.ld H ?_); refine ⟨rfl, ?_⟩; refine ⟨c_look rfl, ?_⟩; refine ⟨_, _, rfl, ?_⟩; ((repeat ((fail_if_success refine ⟨_, _, _, .z, ?_⟩); refine hs ?_)); refine ⟨_, _, _, .z, ?_⟩); refine ⟨_, rfl, ?_⟩; go_frame) | ((with_reducible refine Hp.lds H ?_); refine ⟨rfl, by kernel_rfl, ?_⟩; refine ⟨_, s_look rfl, ?_⟩; refine ⟨_, _, rfl, ?_⟩; ((repeat ((fail_if_success refine ⟨_, _, _, .z, ?_⟩); refine hs ?_)); refine ⟨_, _, _, .z, ?_⟩); (first | refine ⟨enC e, rfl, rfl, ?_⟩ | refine ⟨baC xr xp, rfl, rfl, ?_⟩); go_frame) | ((with_reducible refine Hp.sta H ?_); refine ⟨rfl, ?_⟩; refine ⟨_, s_look rfl, ?_⟩; refine ⟨_, rfl, _, rfl, rfl, ?_⟩; ((repeat ((fail_if_success refine ⟨_, _, _, .z, ?_⟩); refine hs ?_)); refine ⟨_, _, _, .z, ?_⟩); refine ⟨rfl, rfl, ?_⟩; (clear H; intro w1 H; simp only [List.set] at H); go_frame) | ((with_reducible refine Hp.bdl (t := 55) (parts := [_, _]) H ?_); refine ⟨rfl, _, b_rp2 _ _, ?_⟩; go_frame) | ((with_reducible refine Hp.ldrO H ?_); refine ⟨rfl, by kernel_rfl, _, _, rfl, _, hrk, s_Report, ?_⟩; go_frame) | ((with_reducible refine Hp.str H ?_); refine ⟨rfl, ?_⟩; refine ⟨_, s_look rfl, ?_⟩; refine ⟨_, _, rfl, enC e, rfl, rfl, ?_⟩; ((repeat ((fail_if_success refine ⟨_, _, _, .z, ?_⟩); refine hs ?_)); refine ⟨_, _, _, .z, ?_⟩); refine ⟨rfl, rpC ⟨ix, 2, 0, 0, e⟩, rfl, _, rfl, Nat.le_of_ble_eq_true rfl, ?_⟩; (clear H; intro w1 H; simp only [List.set] at H); go_frame) | ((with_reducible refine Hp.str H ?_); refine ⟨rfl, ?_⟩; refine ⟨_, s_look rfl, ?_⟩; refine ⟨_, _, rfl, baC xr xp, rfl, rfl, ?_⟩; ((repeat ((fail_if_success refine ⟨_, _, _, .z, ?_⟩); refine hs ?_)); refine ⟨_, _, _, .z, ?_⟩); refine ⟨rfl, rpC ⟨ix, 2, xr, xp, e⟩, rfl, _, rfl, Nat.le_of_ble_eq_true rfl, ?_⟩; (clear H; intro w1 H; simp only [List.set] at H); go_frame) | ((with_reducible refine (emay_v hm HSM.out _).mono ?_); rintro _ w1 ⟨rfl, hb⟩; replace H := H.call hb; clear hb))
          ((with_reducible refine wp_region_hpK H (by kernel_rfl) (by kernel_rfl) ?_); intro _ KQ hKQ; (repeat (first | go_big_quiet_skip | go_big_quiet_step ((with_reducible exact hq_call (number_v hn _))))); (with_reducible refine wpQuiet_nil (hKQ _ ?_)); clear hKQ; clear KQ H; intro w1 H)
          go_wp2_with (fail)
          go_ret
          refine ⟨ret_bool (repsB_no hK ?_).symm, H.below⟩
          rw [HXE.out, stepB, repB_eq]
          unfold goodRp bareRp
          simp [*]
        · cases hc : balM xr xp n
          · have hq := True.intro
            have hn := True.intro
            go_wp2_with (first | ((with_reducible refine Hp.allo H ?_); refine ⟨rfl, ?_⟩; refine ⟨_, z_look rfl, ?_⟩; (clear H; intro g1 w1 H); go_frame) | ((with_reducible refine Hp.ld H ?_); refine ⟨rfl, ?_⟩; refine ⟨c_look rfl, ?_⟩; refine ⟨_, _, rfl, ?_⟩; ((repeat ((fail_if_success refine ⟨_, _, _, .z, ?_⟩); refine hs ?_)); refine ⟨_, _, _, .z, ?_⟩); refine ⟨_, rfl, ?_⟩; go_frame) | ((with_reducible refine Hp.lds H ?_); refine ⟨rfl, by kernel_rfl, ?_⟩; refine ⟨_, s_look rfl, ?_⟩; refine ⟨_, _, rfl, ?_⟩; ((repeat ((fail_if_success refine ⟨_, _, _, .z, ?_⟩); refine hs ?_)); refine ⟨_, _, _, .z, ?_⟩); (first | refine ⟨enC e, rfl, rfl, ?_⟩ | refine ⟨baC xr xp, rfl, rfl, ?_⟩); go_frame) | ((with_reducible refine Hp.sta H ?_); refine ⟨rfl, ?_⟩; refine ⟨_, s_look rfl, ?_⟩; refine ⟨_, rfl, _, rfl, rfl, ?_⟩; ((repeat ((fail_if_success refine ⟨_, _, _, .z, ?_⟩); refine hs ?_)); refine ⟨_, _, _, .z, ?_⟩); refine ⟨rfl, rfl, ?_⟩; (clear H; intro w1 H; simp only [List.set] at H); go_frame) | ((with_reducible refine Hp.bdl (t := 55) (parts := [_, _]) H ?_); refine ⟨rfl, _, b_rp2 _ _, ?_⟩; go_frame) | ((with_reducible refine Hp.ldrO H ?_); refine ⟨rfl, by kernel_rfl, _, _, rfl, _, hrk, s_Report, ?_⟩; go_frame) | ((with_reducible refine Hp.str H ?_); refine ⟨rfl, ?_⟩; refine ⟨_, s_look rfl, ?_⟩; refine ⟨_, _, rfl, enC e, rfl, rfl, ?_⟩; ((repeat ((fail_if_success refine ⟨_, _, _, .z, ?_⟩); refine hs ?_)); refine ⟨_, _, _, .z, ?_⟩); refine ⟨rfl, rpC ⟨ix, 2, 0, 0, e⟩, rfl, _, rfl, Nat.le_of_ble_eq_true rfl, ?_⟩; (clear H; intro w1 H; simp only [List.set] at H); go_frame) | ((with_reducible refine Hp.str H ?_); refine ⟨rfl, ?_⟩; refine ⟨_, s_look rfl, ?_⟩; refine ⟨_, _, rfl, baC xr xp, rfl, rfl, ?_⟩; ((repeat ((fail_if_success refine ⟨_, _, _, .z, ?_⟩); refine hs ?_)); refine ⟨_, _, _, .z, ?_⟩); refine ⟨rfl, rpC ⟨ix, 2, xr, xp, e⟩, rfl, _, rfl, Nat.le_of_ble_eq_true rfl, ?_⟩; (clear H; intro w1 H; simp only [List.set] at H); go_frame) | ((with_reducible refine (chosen_v hc _).mono ?_); rintro _ w1 ⟨rfl, hb⟩; replace H := H.call hb; clear hb) | ((with_reducible refine (emay_v hm HSM.out _).mono ?_); rintro _ w1 ⟨rfl, hb⟩; replace H := H.call hb; clear hb))
            ((with_reducible refine wp_region_hpK H (by kernel_rfl) (by kernel_rfl) ?_); intro _ KQ hKQ; (repeat (first | go_big_quiet_skip | go_big_quiet_step ((with_reducible exact hq_call (number_v hn _))))); (with_reducible refine wpQuiet_nil (hKQ _ ?_)); clear hKQ; clear KQ H; intro w1 H)
            go_wp2_with (fail)
            go_ret
            refine ⟨ret_bool (repsB_no hK ?_).symm, H.below⟩
            rw [HXE.out, stepB, repB_eq]
            unfold goodRp bareRp
            simp [*]
          · skip
            rcases ch2 (rpEq (⟨ix, 2, xr, xp, e⟩ : Rp) (⟨ix, 2, xr, xp, e⟩ : Rp)) (numB ix 1) with q0 | ⟨q0, hn⟩ | ⟨q0, hn⟩
            · have hq : (!rpEq (⟨ix, 2, xr, xp, e⟩ : Rp) (⟨ix, 2, xr, xp, e⟩ : Rp)) = true := by rw [q0]; rfl
              have hn := True.intro
              go_wp2_with (first | ((with_reducible refine Hp.allo H ?_); refine ⟨rfl, ?_⟩; refine ⟨_, z_look rfl, ?_⟩; (clear H; intro g1 w1 H); go_frame) | ((with_reducible refine Hp.ld H ?_); refine ⟨rfl, ?_⟩; refine ⟨c_look rfl, ?_⟩; refine ⟨_, _, rfl, ?_⟩; ((repeat ((fail_if_success refine ⟨_, _, _, .z, ?_⟩); refine hs ?_)); refine ⟨_, _, _, .z, ?_⟩); refine ⟨_, rfl, ?_⟩; go_frame) | ((with_reducible refine Hp.lds H ?_); refine ⟨rfl, by kernel_rfl, ?_⟩; refine ⟨_, s_look rfl, ?_⟩; refine ⟨_, _, rfl, ?_⟩; ((repeat ((fail_if_success refine ⟨_, _, _, .z, ?_⟩); refine hs ?_)); refine ⟨_, _, _, .z, ?_⟩); (first | refine ⟨enC e, rfl, rfl, ?_⟩ | refine ⟨baC xr xp, rfl, rfl, ?_⟩); go_frame) | ((with_reducible refine Hp.sta H ?_); refine ⟨rfl, ?_⟩; refine ⟨_, s_look rfl, ?_⟩; refine ⟨_, rfl, _, rfl, rfl, ?_⟩; ((repeat ((fail_if_success refine ⟨_, _, _, .z, ?_⟩); refine hs ?_)); refine ⟨_, _, _, .z, ?_⟩); refine ⟨rfl, rfl, ?_⟩; (clear H; intro w1 H; simp only [List.set] at H); go_frame) | ((with_reducible refine Hp.bdl (t := 55) (parts := [_, _]) H ?_); refine ⟨rfl, _, b_rp2 _ _, ?_⟩; go_frame) | ((with_reducible refine Hp.ldrO H ?_); refine ⟨rfl, by kernel_rfl, _, _, rfl, _, hrk, s_Report, ?_⟩; go_frame) | ((with_reducible refine Hp.str H ?_); refine ⟨rfl, ?_⟩; refine ⟨_, s_look rfl, ?_⟩; refine ⟨_, _, rfl, enC e, rfl, rfl, ?_⟩; ((repeat ((fail_if_success refine ⟨_, _, _, .z, ?_⟩); refine hs ?_)); refine ⟨_, _, _, .z, ?_⟩); refine ⟨rfl, rpC ⟨ix, 2, 0, 0, e⟩, rfl, _, rfl, Nat.le_of_ble_eq_true rfl, ?_⟩; (clear H; intro w1 H; simp only [List.set] at H); go_frame) | ((with_reducible refine Hp.str H ?_); refine ⟨rfl, ?_⟩; refine ⟨_, s_look rfl, ?_⟩; refine ⟨_, _, rfl, baC xr xp, rfl, rfl, ?_⟩; ((repeat ((fail_if_success refine ⟨_, _, _, .z, ?_⟩); refine hs ?_)); refine ⟨_, _, _, .z, ?_⟩); refine ⟨rfl, rpC ⟨ix, 2, xr, xp, e⟩, rfl, _, rfl, Nat.le_of_ble_eq_true rfl, ?_⟩; (clear H; intro w1 H; simp only [List.set] at H); go_frame) | ((with_reducible refine (chosen_v hc _).mono ?_); rintro _ w1 ⟨rfl, hb⟩; replace H := H.call hb; clear hb) | ((with_reducible refine (emay_v hm HSM.out _).mono ?_); rintro _ w1 ⟨rfl, hb⟩; replace H := H.call hb; clear hb))
              ((with_reducible refine wp_region_hpK H (by kernel_rfl) (by kernel_rfl) ?_); intro _ KQ hKQ; (repeat (first | go_big_quiet_skip | ((with_reducible refine hq_lda ?_); refine ⟨rfl, by kernel_rfl, ?_⟩; refine ⟨_, s_look rfl, ?_⟩; refine ⟨_, rfl, ?_⟩; ((repeat ((fail_if_success refine ⟨_, _, _, .z, ?_⟩); refine hs ?_)); refine ⟨_, _, _, .z, ?_⟩); refine ⟨rfl, ?_⟩; go_frame) | ((with_reducible refine qB_neRp ?_); refine ⟨rfl, _, _, rfl, rfl, _, hq, ?_⟩; go_frame) | go_big_quiet_step ((with_reducible exact hq_call (number_v hn _))))); (with_reducible refine wpQuiet_nil (hKQ _ ?_)); clear hKQ; clear KQ H; intro w1 H)
              go_wp2_with (fail)
              go_ret
              refine ⟨ret_bool (repsB_no hK ?_).symm, H.below⟩
              rw [HXE.out, stepB, repB_eq]
              unfold goodRp bareRp
              simp [*]
            · have hq : (!rpEq (⟨ix, 2, xr, xp, e⟩ : Rp) (⟨ix, 2, xr, xp, e⟩ : Rp)) = false := by rw [q0]; rfl
              go_wp2_with (first | ((with_reducible refine Hp.allo H ?_); refine ⟨rfl, ?_⟩; refine ⟨_, z_look rfl, ?_⟩; (clear H; intro g1 w1 H); go_frame) | ((with_reducible refine Hp.ld H ?_); refine ⟨rfl, ?_⟩; refine ⟨c_look rfl, ?_⟩; refine ⟨_, _, rfl, ?_⟩; ((repeat ((fail_if_success refine ⟨_, _, _, .z, ?_⟩); refine hs ?_)); refine ⟨_, _, _, .z, ?_⟩); refine ⟨_, rfl, ?_⟩; go_frame) | ((with_reducible refine Hp.lds H ?_); refine ⟨rfl, by kernel_rfl, ?_⟩; refine ⟨_, s_look rfl, ?_⟩; refine ⟨_, _, rfl, ?_⟩; ((repeat ((fail_if_success refine ⟨_, _, _, .z, ?_⟩); refine hs ?_)); refine ⟨_, _, _, .z, ?_⟩); (first | refine ⟨enC e, rfl, rfl, ?_⟩ | refine ⟨baC xr xp, rfl, rfl, ?_⟩); go_frame) | ((with_reducible refine Hp.sta H ?_); refine ⟨rfl, ?_⟩; refine ⟨_, s_look rfl, ?_⟩; refine ⟨_, rfl, _, rfl, rfl, ?_⟩; ((repeat ((fail_if_success refine ⟨_, _, _, .z, ?_⟩); refine hs ?_)); refine ⟨_, _, _, .z, ?_⟩); refine ⟨rfl, rfl, ?_⟩; (clear H; intro w1 H; simp only [List.set] at H); go_frame) | ((with_reducible refine Hp.bdl (t := 55) (parts := [_, _]) H ?_); refine ⟨rfl, _, b_rp2 _ _, ?_⟩; go_frame) | ((with_reducible refine Hp.ldrO H ?_); refine ⟨rfl, by kernel_rfl, _, _, rfl, _, hrk, s_Report, ?_⟩; go_frame) | ((with_reducible refine Hp.str H ?_); refine ⟨rfl, ?_⟩; refine ⟨_, s_look rfl, ?_⟩; refine ⟨_, _, rfl, enC e, rfl, rfl, ?_⟩; ((repeat ((fail_if_success refine ⟨_, _, _, .z, ?_⟩); refine hs ?_)); refine ⟨_, _, _, .z, ?_⟩); refine ⟨rfl, rpC ⟨ix, 2, 0, 0, e⟩, rfl, _, rfl, Nat.le_of_ble_eq_true rfl, ?_⟩; (clear H; intro w1 H; simp only [List.set] at H); go_frame) | ((with_reducible refine Hp.str H ?_); refine ⟨rfl, ?_⟩; refine ⟨_, s_look rfl, ?_⟩; refine ⟨_, _, rfl, baC xr xp, rfl, rfl, ?_⟩; ((repeat ((fail_if_success refine ⟨_, _, _, .z, ?_⟩); refine hs ?_)); refine ⟨_, _, _, .z, ?_⟩); refine ⟨rfl, rpC ⟨ix, 2, xr, xp, e⟩, rfl, _, rfl, Nat.le_of_ble_eq_true rfl, ?_⟩; (clear H; intro w1 H; simp only [List.set] at H); go_frame) | ((with_reducible refine (chosen_v hc _).mono ?_); rintro _ w1 ⟨rfl, hb⟩; replace H := H.call hb; clear hb) | ((with_reducible refine (emay_v hm HSM.out _).mono ?_); rintro _ w1 ⟨rfl, hb⟩; replace H := H.call hb; clear hb))
              ((with_reducible refine wp_region_hpK H (by kernel_rfl) (by kernel_rfl) ?_); intro _ KQ hKQ; (repeat (first | go_big_quiet_skip | ((with_reducible refine hq_ld ?_); refine ⟨rfl, ?_⟩; refine ⟨c_look rfl, ?_⟩; refine ⟨_, _, rfl, ?_⟩; ((repeat ((fail_if_success refine ⟨_, _, _, .z, ?_⟩); refine hs ?_)); refine ⟨_, _, _, .z, ?_⟩); refine ⟨_, rfl, ?_⟩; go_frame) | ((with_reducible refine hq_lda ?_); refine ⟨rfl, by kernel_rfl, ?_⟩; refine ⟨_, s_look rfl, ?_⟩; refine ⟨_, rfl, ?_⟩; ((repeat ((fail_if_success refine ⟨_, _, _, .z, ?_⟩); refine hs ?_)); refine ⟨_, _, _, .z, ?_⟩); refine ⟨rfl, ?_⟩; go_frame) | ((with_reducible refine qB_neRp ?_); refine ⟨rfl, _, _, rfl, rfl, _, hq, ?_⟩; go_frame) | go_big_quiet_step ((with_reducible exact hq_call (number_v hn _))))); (with_reducible refine wpQuiet_nil (hKQ _ ?_)); clear hKQ; clear KQ H; intro w1 H)
              go_wp2_with (fail)
              go_ret
              refine ⟨ret_bool (repsB_no hK ?_).symm, H.below⟩
              rw [HXE.out, stepB, repB_eq]
              unfold goodRp bareRp
              simp [*]
            · have hq : (!rpEq (⟨ix, 2, xr, xp, e⟩ : Rp) (⟨ix, 2, xr, xp, e⟩ : Rp)) = false := by rw [q0]; rfl
              have hg : repB (⟨ix, 2, xr, xp, e⟩ : Rp) n = true := by rw [repB_eq]; unfold goodRp bareRp; simp [*]
              rcases Nat.eq_zero_or_pos k with hk0 | hk0
              · obtain rfl := hk0
                have hstep : stepB rs n 0 (⟨ix, 2, xr, xp, e⟩ : Rp) = true := by rw [stepB, hg]; rfl
                have HST := Lib.hid hstep
                clear hstep hg q0
                go_wp2_with (first | ((with_reducible refine Hp.allo H ?_); refine ⟨rfl, ?_⟩; refine ⟨_, z_look rfl, ?_⟩; (clear H; intro g1 w1 H); go_frame) | ((with_reducible refine Hp.ld H ?_); refine ⟨rfl, ?_⟩; refine ⟨c_look rfl, ?_⟩; refine ⟨_, _, rfl, ?_⟩; ((repeat ((fail_if_success refine ⟨_, _, _, .z, ?_⟩); refine hs ?_)); refine ⟨_, _, _, .z, ?_⟩); refine ⟨_, rfl, ?_⟩; go_frame) | ((with_reducible refine Hp.lds H ?_); refine ⟨rfl, by kernel_rfl, ?_⟩; refine ⟨_, s_look rfl, ?_⟩; refine ⟨_, _, rfl, ?_⟩; ((repeat ((fail_if_success refine ⟨_, _, _, .z, ?_⟩); refine hs ?_)); refine ⟨_, _, _, .z, ?_⟩); (first | refine ⟨enC e, rfl, rfl, ?_⟩ | refine ⟨baC xr xp, rfl, rfl, ?_⟩); go_frame) | ((with_reducible refine Hp.sta H ?_); refine ⟨rfl, ?_⟩; refine ⟨_, s_look rfl, ?_⟩; refine ⟨_, rfl, _, rfl, rfl, ?_⟩; ((repeat ((fail_if_success refine ⟨_, _, _, .z, ?_⟩); refine hs ?_)); refine ⟨_, _, _, .z, ?_⟩); refine ⟨rfl, rfl, ?_⟩; (clear H; intro w1 H; simp only [List.set] at H); go_frame) | ((with_reducible refine Hp.bdl (t := 55) (parts := [_, _]) H ?_); refine ⟨rfl, _, b_rp2 _ _, ?_⟩; go_frame) | ((with_reducible refine Hp.ldrO H ?_); refine ⟨rfl, by kernel_rfl, _, _, rfl, _, hrk, s_Report, ?_⟩; go_frame) | ((with_reducible refine Hp.str H ?_); refine ⟨rfl, ?_⟩; refine ⟨_, s_look rfl, ?_⟩; refine ⟨_, _, rfl, enC e, rfl, rfl, ?_⟩; ((repeat ((fail_if_success refine ⟨_, _, _, .z, ?_⟩); refine hs ?_)); refine ⟨_, _, _, .z, ?_⟩); refine ⟨rfl, rpC ⟨ix, 2, 0, 0, e⟩, rfl, _, rfl, Nat.le_of_ble_eq_true rfl, ?_⟩; (clear H; intro w1 H; simp only [List.set] at H); go_frame) | ((with_reducible refine Hp.str H ?_); refine ⟨rfl, ?_⟩; refine ⟨_, s_look rfl, ?_⟩; refine ⟨_, _, rfl, baC xr xp, rfl, rfl, ?_⟩; ((repeat ((fail_if_success refine ⟨_, _, _, .z, ?_⟩); refine hs ?_)); refine ⟨_, _, _, .z, ?_⟩); refine ⟨rfl, rpC ⟨ix, 2, xr, xp, e⟩, rfl, _, rfl, Nat.le_of_ble_eq_true rfl, ?_⟩; (clear H; intro w1 H; simp only [List.set] at H); go_frame) | ((with_reducible refine (chosen_v hc _).mono ?_); rintro _ w1 ⟨rfl, hb⟩; replace H := H.call hb; clear hb) | ((with_reducible refine (emay_v hm HSM.out _).mono ?_); rintro _ w1 ⟨rfl, hb⟩; replace H := H.call hb; clear hb))
                ((with_reducible refine wp_region_hpK H (by kernel_rfl) (by kernel_rfl) ?_); intro _ KQ hKQ; (repeat (first | go_big_quiet_skip | ((with_reducible refine hq_ld ?_); refine ⟨rfl, ?_⟩; refine ⟨c_look rfl, ?_⟩; refine ⟨_, _, rfl, ?_⟩; ((repeat ((fail_if_success refine ⟨_, _, _, .z, ?_⟩); refine hs ?_)); refine ⟨_, _, _, .z, ?_⟩); refine ⟨_, rfl, ?_⟩; go_frame) | ((with_reducible refine hq_lda ?_); refine ⟨rfl, by kernel_rfl, ?_⟩; refine ⟨_, s_look rfl, ?_⟩; refine ⟨_, rfl, ?_⟩; ((repeat ((fail_if_success refine ⟨_, _, _, .z, ?_⟩); refine hs ?_)); refine ⟨_, _, _, .z, ?_⟩); refine ⟨rfl, ?_⟩; go_frame) | ((with_reducible refine qB_neRp ?_); refine ⟨rfl, _, _, rfl, rfl, _, hq, ?_⟩; go_frame) | go_big_quiet_step ((with_reducible exact hq_call (number_v hn _))))); (with_reducible refine wpQuiet_nil (hKQ _ ?_)); clear hKQ; clear KQ H; intro w1 H)
                go_wp2_with (fail)
                go_roundw
                case rel =>
                  refine ⟨0 + 1, hK, rfl, fun i h hi => ?_, H.below⟩
                  obtain rfl : i = 0 := by omega
                  rw [HXE.out]
                  exact HST.out
                case measure => show rs.length - ((0 : Int) + 1).toNat < rs.length - (0 : Int).toNat; omega
              · obtain ⟨j, rfl⟩ : ∃ j, k = j + 1 := ⟨k - 1, by omega⟩
                have hpv := HPV.out j rfl
                obtain ⟨pv, hpve⟩ : ∃ pv, (rs.getD (j + 1 - 1) rp0).ix = pv := ⟨_, rfl⟩
                rw [hpve] at hpv
                have hjs : ((j + 1 : Nat) : Int) - 1 = j := by omega
                cases d : decide (ix ≤ pv)
                · have hstep : stepB rs n (j + 1) (⟨ix, 2, xr, xp, e⟩ : Rp) = true := by rw [stepB, hg, hpve]; simp at d ⊢; exact d
                  have HST := Lib.hid hstep
                  clear hstep hg q0 hpve
                  go_wp2_with (first | ((with_reducible refine Hp.allo H ?_); refine ⟨rfl, ?_⟩; refine ⟨_, z_look rfl, ?_⟩; (clear H; intro g1 w1 H); go_frame) | ((with_reducible refine Hp.ld H ?_); refine ⟨rfl, ?_⟩; refine ⟨c_look rfl, ?_⟩; refine ⟨_, _, rfl, ?_⟩; ((repeat ((fail_if_success refine ⟨_, _, _, .z, ?_⟩); refine hs ?_)); refine ⟨_, _, _, .z, ?_⟩); refine ⟨_, rfl, ?_⟩; go_frame) | ((with_reducible refine Hp.lds H ?_); refine ⟨rfl, by kernel_rfl, ?_⟩; refine ⟨_, s_look rfl, ?_⟩; refine ⟨_, _, rfl, ?_⟩; ((repeat ((fail_if_success refine ⟨_, _, _, .z, ?_⟩); refine hs ?_)); refine ⟨_, _, _, .z, ?_⟩); (first | refine ⟨enC e, rfl, rfl, ?_⟩ | refine ⟨baC xr xp, rfl, rfl, ?_⟩); go_frame) | ((with_reducible refine Hp.sta H ?_); refine ⟨rfl, ?_⟩; refine ⟨_, s_look rfl, ?_⟩; refine ⟨_, rfl, _, rfl, rfl, ?_⟩; ((repeat ((fail_if_success refine ⟨_, _, _, .z, ?_⟩); refine hs ?_)); refine ⟨_, _, _, .z, ?_⟩); refine ⟨rfl, rfl, ?_⟩; (clear H; intro w1 H; simp only [List.set] at H); go_frame) | ((with_reducible refine Hp.bdl (t := 55) (parts := [_, _]) H ?_); refine ⟨rfl, _, b_rp2 _ _, ?_⟩; go_frame) | ((with_reducible refine Hp.ldrO H ?_); refine ⟨rfl, by kernel_rfl, _, _, rfl, _, hrk, s_Report, ?_⟩; go_frame) | ((with_reducible refine Hp.str H ?_); refine ⟨rfl, ?_⟩; refine ⟨_, s_look rfl, ?_⟩; refine ⟨_, _, rfl, enC e, rfl, rfl, ?_⟩; ((repeat ((fail_if_success refine ⟨_, _, _, .z, ?_⟩); refine hs ?_)); refine ⟨_, _, _, .z, ?_⟩); refine ⟨rfl, rpC ⟨ix, 2, 0, 0, e⟩, rfl, _, rfl, Nat.le_of_ble_eq_true rfl, ?_⟩; (clear H; intro w1 H; simp only [List.set] at H); go_frame) | ((with_reducible refine Hp.str H ?_); refine ⟨rfl, ?_⟩; refine ⟨_, s_look rfl, ?_⟩; refine ⟨_, _, rfl, baC xr xp, rfl, rfl, ?_⟩; ((repeat ((fail_if_success refine ⟨_, _, _, .z, ?_⟩); refine hs ?_)); refine ⟨_, _, _, .z, ?_⟩); refine ⟨rfl, rpC ⟨ix, 2, xr, xp, e⟩, rfl, _, rfl, Nat.le_of_ble_eq_true rfl, ?_⟩; (clear H; intro w1 H; simp only [List.set] at H); go_frame) | ((with_reducible refine (chosen_v hc _).mono ?_); rintro _ w1 ⟨rfl, hb⟩; replace H := H.call hb; clear hb) | ((with_reducible refine (emay_v hm HSM.out _).mono ?_); rintro _ w1 ⟨rfl, hb⟩; replace H := H.call hb; clear hb))
                  ((with_reducible refine wp_region_hpK H (by kernel_rfl) (by kernel_rfl) ?_); intro _ KQ hKQ; (repeat (first | ((with_reducible refine hq_ld ?_); refine ⟨rfl, ?_⟩; refine ⟨c_look rfl, ?_⟩; refine ⟨_, _, rfl, ?_⟩; ((repeat ((fail_if_success refine ⟨_, _, _, .z, ?_⟩); refine hs ?_)); refine ⟨_, _, _, .z, ?_⟩); refine ⟨_, rfl, ?_⟩; go_frame) | ((with_reducible refine hq_lda ?_); refine ⟨rfl, by kernel_rfl, ?_⟩; refine ⟨_, s_look rfl, ?_⟩; refine ⟨_, rfl, ?_⟩; ((repeat ((fail_if_success refine ⟨_, _, _, .z, ?_⟩); refine hs ?_)); refine ⟨_, _, _, .z, ?_⟩); refine ⟨rfl, ?_⟩; go_frame) | ((with_reducible refine qB_neRp ?_); refine ⟨rfl, _, _, rfl, rfl, _, hq, ?_⟩; go_frame) | ((with_reducible refine hq_ldo ?_); refine ⟨rfl, ?_⟩; refine ⟨c_look rfl, ?_⟩; refine ⟨_, rfl, ?_⟩; refine ⟨_, ‹_›, ?_⟩; go_frame) | go_big_quiet_step ((with_reducible exact hq_call (number_v hn _))))); (with_reducible refine wpQuiet_nil (hKQ _ ?_)); clear hKQ; clear KQ H; intro w1 H)
                  go_wp2_with (fail)
                  go_roundw
                  case rel =>
                    refine ⟨j + 1 + 1, hK, rfl, fun i h hi => ?_, H.below⟩
                    by_cases hij : i < j + 1
                    · exact HA.out i h hij
                    · obtain rfl : i = j + 1 := by omega
                      rw [HXE.out]
                      exact HST.out
                  case measure => show rs.length - (((j + 1 : Nat) : Int) + 1).toNat < rs.length - ((j + 1 : Nat) : Int).toNat; omega
                · have hstep : stepB rs n (j + 1) (⟨ix, 2, xr, xp, e⟩ : Rp) = false := by rw [stepB, hg, hpve]; simp at d ⊢; omega
                  have HST := Lib.hid hstep
                  clear hstep hg q0 hpve
                  go_wp2_with (first | ((with_reducible refine Hp.allo H ?_); refine ⟨rfl, ?_⟩; refine ⟨_, z_look rfl, ?_⟩; (clear H; intro g1 w1 H); go_frame) | ((with_reducible refine Hp.ld H ?_); refine ⟨rfl, ?_⟩; refine ⟨c_look rfl, ?_⟩; refine ⟨_, _, rfl, ?_⟩; ((repeat ((fail_if_success refine ⟨_, _, _, .z, ?_⟩); refine hs ?_)); refine ⟨_, _, _, .z, ?_⟩); refine ⟨_, rfl, ?_⟩; go_frame) | ((with_reducible refine Hp.lds H ?_); refine ⟨rfl, by kernel_rfl, ?_⟩; refine ⟨_, s_look rfl, ?_⟩; refine ⟨_, _, rfl, ?_⟩; ((repeat ((fail_if_success refine ⟨_, _, _, .z, ?_⟩); refine hs ?_)); refine ⟨_, _, _, .z, ?_⟩); (first | refine ⟨enC e, rfl, rfl, ?_⟩ | refine ⟨baC xr xp, rfl, rfl, ?_⟩); go_frame) | ((with_reducible refine Hp.sta H ?_); refine ⟨rfl, ?_⟩; refine ⟨_, s_look rfl, ?_⟩; refine ⟨_, rfl, _, rfl, rfl, ?_⟩; ((repeat ((fail_if_success refine ⟨_, _, _, .z, ?_⟩); refine hs ?_)); refine ⟨_, _, _, .z, ?_⟩); refine ⟨rfl, rfl, ?_⟩; (clear H; intro w1 H; simp only [List.set] at H); go_frame) | ((with_reducible refine Hp.bdl (t := 55) (parts := [_, _]) H ?_); refine ⟨rfl, _, b_rp2 _ _, ?_⟩; go_frame) | ((with_reducible refine Hp.ldrO H ?_); refine ⟨rfl, by kernel_rfl, _, _, rfl, _, hrk, s_Report, ?_⟩; go_frame) | ((with_reducible refine Hp.str H ?_); refine ⟨rfl, ?_⟩; refine ⟨_, s_look rfl, ?_⟩; refine ⟨_, _, rfl, enC e, rfl, rfl, ?_⟩; ((repeat ((fail_if_success refine ⟨_, _, _, .z, ?_⟩); refine hs ?_)); refine ⟨_, _, _, .z, ?_⟩); refine ⟨rfl, rpC ⟨ix, 2, 0, 0, e⟩, rfl, _, rfl, Nat.le_of_ble_eq_true rfl, ?_⟩; (clear H; intro w1 H; simp only [List.set] at H); go_frame) | ((with_reducible refine Hp.str H ?_); refine ⟨rfl, ?_⟩; refine ⟨_, s_look rfl, ?_⟩; refine ⟨_, _, rfl, baC xr xp, rfl, rfl, ?_⟩; ((repeat ((fail_if_success refine ⟨_, _, _, .z, ?_⟩); refine hs ?_)); refine ⟨_, _, _, .z, ?_⟩); refine ⟨rfl, rpC ⟨ix, 2, xr, xp, e⟩, rfl, _, rfl, Nat.le_of_ble_eq_true rfl, ?_⟩; (clear H; intro w1 H; simp only [List.set] at H); go_frame) | ((with_reducible refine (chosen_v hc _).mono ?_); rintro _ w1 ⟨rfl, hb⟩; replace H := H.call hb; clear hb) | ((with_reducible refine (emay_v hm HSM.out _).mono ?_); rintro _ w1 ⟨rfl, hb⟩; replace H := H.call hb; clear hb))
                  ((with_reducible refine wp_region_hpK H (by kernel_rfl) (by kernel_rfl) ?_); intro _ KQ hKQ; (repeat (first | ((with_reducible refine hq_ld ?_); refine ⟨rfl, ?_⟩; refine ⟨c_look rfl, ?_⟩; refine ⟨_, _, rfl, ?_⟩; ((repeat ((fail_if_success refine ⟨_, _, _, .z, ?_⟩); refine hs ?_)); refine ⟨_, _, _, .z, ?_⟩); refine ⟨_, rfl, ?_⟩; go_frame) | ((with_reducible refine hq_lda ?_); refine ⟨rfl, by kernel_rfl, ?_⟩; refine ⟨_, s_look rfl, ?_⟩; refine ⟨_, rfl, ?_⟩; ((repeat ((fail_if_success refine ⟨_, _, _, .z, ?_⟩); refine hs ?_)); refine ⟨_, _, _, .z, ?_⟩); refine ⟨rfl, ?_⟩; go_frame) | ((with_reducible refine qB_neRp ?_); refine ⟨rfl, _, _, rfl, rfl, _, hq, ?_⟩; go_frame) | ((with_reducible refine hq_ldo ?_); refine ⟨rfl, ?_⟩; refine ⟨c_look rfl, ?_⟩; refine ⟨_, rfl, ?_⟩; refine ⟨_, ‹_›, ?_⟩; go_frame) | go_big_quiet_step ((with_reducible exact hq_call (number_v hn _))))); (with_reducible refine wpQuiet_nil (hKQ _ ?_)); clear hKQ; clear KQ H; intro w1 H)
                  go_wp2_with (fail)
                  go_ret
                  exact ⟨ret_bool (repsB_no hK (by rw [HXE.out]; exact HST.out)).symm, H.below⟩
      by_cases h3 : st = 3
      · subst h3
        have hm := True.intro
        clear h2
        cases hc : balM xr xp n
        · have hq := True.intro
          have hn := True.intro
          go_wp2_with (first | ((with_reducible refine Hp.allo H ?_); refine ⟨rfl, ?_⟩; refine ⟨_, z_look rfl, ?_⟩; (clear H; intro g1 w1 H); go_frame) | ((with_reducible refine Hp.ld H ?_); refine ⟨rfl, ?_⟩; refine ⟨c_look rfl, ?_⟩; refine ⟨_, _, rfl, ?_⟩; ((repeat ((fail_if_success refine ⟨_, _, _, .z, ?_⟩); refine hs ?_)); refine ⟨_, _, _, .z, ?_⟩); refine ⟨_, rfl, ?_⟩; go_frame) | ((with_reducible refine Hp.lds H ?_); refine ⟨rfl, by kernel_rfl, ?_⟩; refine ⟨_, s_look rfl, ?_⟩; refine ⟨_, _, rfl, ?_⟩; ((repeat ((fail_if_success refine ⟨_, _, _, .z, ?_⟩); refine hs ?_)); refine ⟨_, _, _, .z, ?_⟩); (first | refine ⟨enC e, rfl, rfl, ?_⟩ | refine ⟨baC xr xp, rfl, rfl, ?_⟩); go_frame) | ((with_reducible refine Hp.sta H ?_); refine ⟨rfl, ?_⟩; refine ⟨_, s_look rfl, ?_⟩; refine ⟨_, rfl, _, rfl, rfl, ?_⟩; ((repeat ((fail_if_success refine ⟨_, _, _, .z, ?_⟩); refine hs ?_)); refine ⟨_, _, _, .z, ?_⟩); refine ⟨rfl, rfl, ?_⟩; (clear H; intro w1 H; simp only [List.set] at H); go_frame) | ((with_reducible refine Hp.bdl (t := 55) (parts := [_, _]) H ?_); refine ⟨rfl, _, b_rp2 _ _, ?_⟩; go_frame) | ((with_reducible refine Hp.ldrO H ?_); refine ⟨rfl, by kernel_rfl, _, _, rfl, _, hrk, s_Report, ?_⟩; go_frame) | ((with_reducible refine Hp.str H ?_); refine ⟨rfl, ?_⟩; refine ⟨_, s_look rfl, ?_⟩; refine ⟨_, _, rfl, baC xr xp, rfl, rfl, ?_⟩; ((repeat ((fail_if_success refine ⟨_, _, _, .z, ?_⟩); refine hs ?_)); refine ⟨_, _, _, .z, ?_⟩); refine ⟨rfl, rpC ⟨ix, 3, xr, xp, en0⟩, rfl, _, rfl, Nat.le_of_ble_eq_true rfl, ?_⟩; (clear H; intro w1 H; simp only [List.set] at H); go_frame) | ((with_reducible refine (chosen_v hc _).mono ?_); rintro _ w1 ⟨rfl, hb⟩; replace H := H.call hb; clear hb))
          ((with_reducible refine wp_region_hpK H (by kernel_rfl) (by kernel_rfl) ?_); intro _ KQ hKQ; (repeat (first | go_big_quiet_skip | go_big_quiet_step ((with_reducible exact hq_call (number_v hn _))))); (with_reducible refine wpQuiet_nil (hKQ _ ?_)); clear hKQ; clear KQ H; intro w1 H)
          go_wp2_with (fail)
          go_ret
          refine ⟨ret_bool (repsB_no hK ?_).symm, H.below⟩
          rw [HXE.out, stepB, repB_eq]
          unfold goodRp bareRp
          simp [*]
        · skip
          rcases ch2 (rpEq (⟨ix, 3, xr, xp, e⟩ : Rp) ⟨ix, 3, xr, xp, en0⟩) (numB ix 1) with q0 | ⟨q0, hn⟩ | ⟨q0, hn⟩
          · have hq : (!rpEq (⟨ix, 3, xr, xp, e⟩ : Rp) ⟨ix, 3, xr, xp, en0⟩) = true := by rw [q0]; rfl
            have hn := True.intro
            go_wp2_with (first | ((with_reducible refine Hp.allo H ?_); refine ⟨rfl, ?_⟩; refine ⟨_, z_look rfl, ?_⟩; (clear H; intro g1 w1 H); go_frame) | ((with_reducible refine Hp.ld H ?_); refine ⟨rfl, ?_⟩; refine ⟨c_look rfl, ?_⟩; refine ⟨_, _, rfl, ?_⟩; ((repeat ((fail_if_success refine ⟨_, _, _, .z, ?_⟩); refine hs ?_)); refine ⟨_, _, _, .z, ?_⟩); refine ⟨_, rfl, ?_⟩; go_frame) | ((with_reducible refine Hp.lds H ?_); refine ⟨rfl, by kernel_rfl, ?_⟩; refine ⟨_, s_look rfl, ?_⟩; refine ⟨_, _, rfl, ?_⟩; ((repeat ((fail_if_success refine ⟨_, _, _, .z, ?_⟩); refine hs ?_)); refine ⟨_, _, _, .z, ?_⟩); (first | refine ⟨enC e, rfl, rfl, ?_⟩ | refine ⟨baC xr xp, rfl, rfl, ?_⟩); go_frame) | ((with_reducible refine Hp.sta H ?_); refine ⟨rfl, ?_⟩; refine ⟨_, s_look rfl, ?_⟩; refine ⟨_, rfl, _, rfl, rfl, ?_⟩; ((repeat ((fail_if_success refine ⟨_, _, _, .z, ?_⟩); refine hs ?_)); refine ⟨_, _, _, .z, ?_⟩); refine ⟨rfl, rfl, ?_⟩; (clear H; intro w1 H; simp only [List.set] at H); go_frame) | ((with_reducible refine Hp.bdl (t := 55) (parts := [_, _]) H ?_); refine ⟨rfl, _, b_rp2 _ _, ?_⟩; go_frame) | ((with_reducible refine Hp.ldrO H ?_); refine ⟨rfl, by kernel_rfl, _, _, rfl, _, hrk, s_Report, ?_⟩; go_frame) | ((with_reducible refine Hp.str H ?_); refine ⟨rfl, ?_⟩; refine ⟨_, s_look rfl, ?_⟩; refine ⟨_, _, rfl, baC xr xp, rfl, rfl, ?_⟩; ((repeat ((fail_if_success refine ⟨_, _, _, .z, ?_⟩); refine hs ?_)); refine ⟨_, _, _, .z, ?_⟩); refine ⟨rfl, rpC ⟨ix, 3, xr, xp, en0⟩, rfl, _, rfl, Nat.le_of_ble_eq_true rfl, ?_⟩; (clear H; intro w1 H; simp only [List.set] at H); go_frame) | ((with_reducible refine (chosen_v hc _).mono ?_); rintro _ w1 ⟨rfl, hb⟩; replace H := H.call hb; clear hb))
            ((with_reducible refine wp_region_hpK H (by kernel_rfl) (by kernel_rfl) ?_); intro _ KQ hKQ; (repeat (first | go_big_quiet_skip | ((with_reducible refine hq_lda ?_); refine ⟨rfl, by kernel_rfl, ?_⟩; refine ⟨_, s_look rfl, ?_⟩; refine ⟨_, rfl, ?_⟩; ((repeat ((fail_if_success refine ⟨_, _, _, .z, ?_⟩); refine hs ?_)); refine ⟨_, _, _, .z, ?_⟩); refine ⟨rfl, ?_⟩; go_frame) | ((with_reducible refine qB_neRp ?_); refine ⟨rfl, _, _, rfl, rfl, _, hq, ?_⟩; go_frame) | go_big_quiet_step ((with_reducible exact hq_call (number_v hn _))))); (with_reducible refine wpQuiet_nil (hKQ _ ?_)); clear hKQ; clear KQ H; intro w1 H)
            go_wp2_with (fail)
            go_ret
            refine ⟨ret_bool (repsB_no hK ?_).symm, H.below⟩
            rw [HXE.out, stepB, repB_eq]
            unfold goodRp bareRp
            simp [*]
          · have hq : (!rpEq (⟨ix, 3, xr, xp, e⟩ : Rp) ⟨ix, 3, xr, xp, en0⟩) = false := by rw [q0]; rfl
            go_wp2_with (first | ((with_reducible refine Hp.allo H ?_); refine ⟨rfl, ?_⟩; refine ⟨_, z_look rfl, ?_⟩; (clear H; intro g1 w1 H); go_frame) | ((with_reducible refine Hp.ld H ?_); refine ⟨rfl, ?_⟩; refine ⟨c_look rfl, ?_⟩; refine ⟨_, _, rfl, ?_⟩; ((repeat ((fail_if_success refine ⟨_, _, _, .z, ?_⟩); refine hs ?_)); refine ⟨_, _, _, .z, ?_⟩); refine ⟨_, rfl, ?_⟩; go_frame) | ((with_reducible refine Hp.lds H ?_); refine ⟨rfl, by kernel_rfl, ?_⟩; refine ⟨_, s_look rfl, ?_⟩; refine ⟨_, _, rfl, ?_⟩; ((repeat ((fail_if_success refine ⟨_, _, _, .z, ?_⟩); refine hs ?_)); refine ⟨_, _, _, .z, ?_⟩); (first | refine ⟨enC e, rfl, rfl, ?_⟩ | refine ⟨baC xr xp, rfl, rfl, ?_⟩); go_frame) | ((with_reducible refine Hp.sta H ?_); refine ⟨rfl, ?_⟩; refine ⟨_, s_look rfl, ?_⟩; refine ⟨_, rfl, _, rfl, rfl, ?_⟩; ((repeat ((fail_if_success refine ⟨_, _, _, .z, ?_⟩); refine hs ?_)); refine ⟨_, _, _, .z, ?_⟩); refine ⟨rfl, rfl, ?_⟩; (clear H; intro w1 H; simp only [List.set] at H); go_frame) | ((with_reducible refine Hp.bdl (t := 55) (parts := [_, _]) H ?_); refine ⟨rfl, _, b_rp2 _ _, ?_⟩; go_frame) | ((with_reducible refine Hp.ldrO H ?_); refine ⟨rfl, by kernel_rfl, _, _, rfl, _, hrk, s_Report, ?_⟩; go_frame) | ((with_reducible refine Hp.str H ?_); refine ⟨rfl, ?_⟩; refine ⟨_, s_look rfl, ?_⟩; refine ⟨_, _, rfl, baC xr xp, rfl, rfl, ?_⟩; ((repeat ((fail_if_success refine ⟨_, _, _, .z, ?_⟩); refine hs ?_)); refine ⟨_, _, _, .z, ?_⟩); refine ⟨rfl, rpC ⟨ix, 3, xr, xp, en0⟩, rfl, _, rfl, Nat.le_of_ble_eq_true rfl, ?_⟩; (clear H; intro w1 H; simp only [List.set] at H); go_frame) | ((with_reducible refine (chosen_v hc _).mono ?_); rintro _ w1 ⟨rfl, hb⟩; replace H := H.call hb; clear hb))
            ((with_reducible refine wp_region_hpK H (by kernel_rfl) (by kernel_rfl) ?_); intro _ KQ hKQ; (repeat (first | go_big_quiet_skip | ((with_reducible refine hq_ld ?_); refine ⟨rfl, ?_⟩; refine ⟨c_look rfl, ?_⟩; refine ⟨_, _, rfl, ?_⟩; ((repeat ((fail_if_success refine ⟨_, _, _, .z, ?_⟩); refine hs ?_)); refine ⟨_, _, _, .z, ?_⟩); refine ⟨_, rfl, ?_⟩; go_frame) | ((with_reducible refine hq_lda ?_); refine ⟨rfl, by kernel_rfl, ?_⟩; refine ⟨_, s_look rfl, ?_⟩; refine ⟨_, rfl, ?_⟩; ((repeat ((fail_if_success refine ⟨_, _, _, .z, ?_⟩); refine hs ?_)); refine ⟨_, _, _, .z, ?_⟩); refine ⟨rfl, ?_⟩; go_frame) | ((with_reducible refine qB_neRp ?_); refine ⟨rfl, _, _, rfl, rfl, _, hq, ?_⟩; go_frame) | go_big_quiet_step ((with_reducible exact hq_call (number_v hn _))))); (with_reducible refine wpQuiet_nil (hKQ _ ?_)); clear hKQ; clear KQ H; intro w1 H)
            go_wp2_with (fail)
            go_ret
            refine ⟨ret_bool (repsB_no hK ?_).symm, H.below⟩
            rw [HXE.out, stepB, repB_eq]
            unfold goodRp bareRp
            simp [*]
          · have hq : (!rpEq (⟨ix, 3, xr, xp, e⟩ : Rp) ⟨ix, 3, xr, xp, en0⟩) = false := by rw [q0]; rfl
            have hg : repB (⟨ix, 3, xr, xp, e⟩ : Rp) n = true := by rw [repB_eq]; unfold goodRp bareRp; simp [*]
            rcases Nat.eq_zero_or_pos k with hk0 | hk0
            · obtain rfl := hk0
              have hstep : stepB rs n 0 (⟨ix, 3, xr, xp, e⟩ : Rp) = true := by rw [stepB, hg]; rfl
              have HST := Lib.hid hstep
              clear hstep hg q0
              go_wp2_with (first | ((with_reducible refine Hp.allo H ?_); refine ⟨rfl, ?_⟩; refine ⟨_, z_look rfl, ?_⟩; (clear H; intro g1 w1 H); go_frame) | ((with_reducible refine Hp.ld H ?_); refine ⟨rfl, ?_⟩; refine ⟨c_look rfl, ?_⟩; refine ⟨_, _, rfl, ?_⟩; ((repeat ((fail_if_success refine ⟨_, _, _, .z, ?_⟩); refine hs ?_)); refine ⟨_, _, _, .z, ?_⟩); refine ⟨_, rfl, ?_⟩; go_frame) | ((with_reducible refine Hp.lds H ?_); refine ⟨rfl, by kernel_rfl, ?_⟩; refine ⟨_, s_look rfl, ?_⟩; refine ⟨_, _, rfl, ?_⟩; ((repeat ((fail_if_success refine ⟨_, _, _, .z, ?_⟩); refine hs ?_)); refine ⟨_, _, _, .z, ?_⟩); (first | refine ⟨enC e, rfl, rfl, ?_⟩ | refine ⟨baC xr xp, rfl, rfl, ?_⟩); go_frame) | ((with_reducible refine Hp.sta H ?_); refine ⟨rfl, ?_⟩; refine ⟨_, s_look rfl, ?_⟩; refine ⟨_, rfl, _, rfl, rfl, ?_⟩; ((repeat ((fail_if_success refine ⟨_, _, _, .z, ?_⟩); refine hs ?_)); refine ⟨_, _, _, .z, ?_⟩); refine ⟨rfl, rfl, ?_⟩; (clear H; intro w1 H; simp only [List.set] at H); go_frame) | ((with_reducible refine Hp.bdl (t := 55) (parts := [_, _]) H ?_); refine ⟨rfl, _, b_rp2 _ _, ?_⟩; go_frame) | ((with_reducible refine Hp.ldrO H ?_); refine ⟨rfl, by kernel_rfl, _, _, rfl, _, hrk, s_Report, ?_⟩; go_frame) | ((with_reducible refine Hp.str H ?_); refine ⟨rfl, ?_⟩; refine ⟨_, s_look rfl, ?_⟩; refine ⟨_, _, rfl, baC xr xp, rfl, rfl, ?_⟩; ((repeat ((fail_if_success refine ⟨_, _, _, .z, ?_⟩); refine hs ?_)); refine ⟨_, _, _, .z, ?_⟩); refine ⟨rfl, rpC ⟨ix, 3, xr, xp, en0⟩, rfl, _, rfl, Nat.le_of_ble_eq_true rfl, ?_⟩; (clear H; intro w1 H; simp only [List.set] at H); go_frame) | ((with_reducible refine (chosen_v hc _).mono ?_); rintro _ w1 ⟨rfl, hb⟩; replace H := H.call hb; clear hb))
              ((with_reducible refine wp_region_hpK H (by kernel_rfl) (by kernel_rfl) ?_); intro _ KQ hKQ; (repeat (first | go_big_quiet_skip | ((with_reducible refine hq_ld ?_); refine ⟨rfl, ?_⟩; refine ⟨c_look rfl, ?_⟩; refine ⟨_, _, rfl, ?_⟩; ((repeat ((fail_if_success refine ⟨_, _, _, .z, ?_⟩); refine hs ?_)); refine ⟨_, _, _, .z, ?_⟩); refine ⟨_, rfl, ?_⟩; go_frame) | ((with_reducible refine hq_lda ?_); refine ⟨rfl, by kernel_rfl, ?_⟩; refine ⟨_, s_look rfl, ?_⟩; refine ⟨_, rfl, ?_⟩; ((repeat ((fail_if_success refine ⟨_, _, _, .z, ?_⟩); refine hs ?_)); refine ⟨_, _, _, .z, ?_⟩); refine ⟨rfl, ?_⟩; go_frame) | ((with_reducible refine qB_neRp ?_); refine ⟨rfl, _, _, rfl, rfl, _, hq, ?_⟩; go_frame) | go_big_quiet_step ((with_reducible exact hq_call (number_v hn _))))); (with_reducible refine wpQuiet_nil (hKQ _ ?_)); clear hKQ; clear KQ H; intro w1 H)
              go_wp2_with (fail)
              go_roundw
              case rel =>
                refine ⟨0 + 1, hK, rfl, fun i h hi => ?_, H.below⟩
                obtain rfl : i = 0 := by omega
                rw [HXE.out]
                exact HST.out
              case measure => show rs.length - ((0 : Int) + 1).toNat < rs.length - (0 : Int).toNat; omega
            · obtain ⟨j, rfl⟩ : ∃ j, k = j + 1 := ⟨k - 1, by omega⟩
              have hpv := HPV.out j rfl
              obtain ⟨pv, hpve⟩ : ∃ pv, (rs.getD (j + 1 - 1) rp0).ix = pv := ⟨_, rfl⟩
              rw [hpve] at hpv
              have hjs : ((j + 1 : Nat) : Int) - 1 = j := by omega
              cases d : decide (ix ≤ pv)
              · have hstep : stepB rs n (j + 1) (⟨ix, 3, xr, xp, e⟩ : Rp) = true := by rw [stepB, hg, hpve]; simp at d ⊢; exact d
                have HST := Lib.hid hstep
                clear hstep hg q0 hpve
                go_wp2_with (first | ((with_reducible refine Hp.allo H ?_); refine ⟨rfl, ?_⟩; refine ⟨_, z_look rfl, ?_⟩; (clear H; intro g1 w1 H); go_frame) | ((with_reducible refine Hp.ld H ?_); refine ⟨rfl, ?_⟩; refine ⟨c_look rfl, ?_⟩; refine ⟨_, _, rfl, ?_⟩; ((repeat ((fail_if_success refine ⟨_, _, _, .z, ?_⟩); refine hs ?_)); refine ⟨_, _, _, .z, ?_⟩); refine ⟨_, rfl, ?_⟩; go_frame) | ((with_reducible refine Hp.lds H ?_); refine ⟨rfl, by kernel_rfl, ?_⟩; refine ⟨_, s_look rfl, ?_⟩; refine ⟨_, _, rfl, ?_⟩; ((repeat ((fail_if_success refine ⟨_, _, _, .z, ?_⟩); refine hs ?_)); refine ⟨_, _, _, .z, ?_⟩); (first | refine ⟨enC e, rfl, rfl, ?_⟩ | refine ⟨baC xr xp, rfl, rfl, ?_⟩); go_frame) | ((with_reducible refine Hp.sta H ?_); refine ⟨rfl, ?_⟩; refine ⟨_, s_look rfl, ?_⟩; refine ⟨_, rfl, _, rfl, rfl, ?_⟩; ((repeat ((fail_if_success refine ⟨_, _, _, .z, ?_⟩); refine hs ?_)); refine ⟨_, _, _, .z, ?_⟩); refine ⟨rfl, rfl, ?_⟩; (clear H; intro w1 H; simp only [List.set] at H); go_frame) | ((with_reducible refine Hp.bdl (t := 55) (parts := [_, _]) H ?_); refine ⟨rfl, _, b_rp2 _ _, ?_⟩; go_frame) | ((with_reducible refine Hp.ldrO H ?_); refine ⟨rfl, by kernel_rfl, _, _, rfl, _, hrk, s_Report, ?_⟩; go_frame) | ((with_reducible refine Hp.str H ?_); refine ⟨rfl, ?_⟩; refine ⟨_, s_look rfl, ?_⟩; refine ⟨_, _, rfl, baC xr xp, rfl, rfl, ?_⟩; ((repeat ((fail_if_success refine ⟨_, _, _, .z, ?_⟩); refine hs ?_)); refine ⟨_, _, _, .z, ?_⟩); refine ⟨rfl, rpC ⟨ix, 3, xr, xp, en0⟩, rfl, _, rfl, Nat.le_of_ble_eq_true rfl, ?_⟩; (clear H; intro w1 H; simp only [List.set] at H); go_frame) | ((with_reducible refine (chosen_v hc _).mono ?_); rintro _ w1 ⟨rfl, hb⟩; replace H := H.call hb; clear hb))
                ((with_reducible refine wp_region_hpK H (by kernel_rfl) (by kernel_rfl) ?_); intro _ KQ hKQ; (repeat (first | ((with_reducible refine hq_ld ?_); refine ⟨rfl, ?_⟩; refine ⟨c_look rfl, ?_⟩; refine ⟨_, _, rfl, ?_⟩; ((repeat ((fail_if_success refine ⟨_, _, _, .z, ?_⟩); refine hs ?_)); refine ⟨_, _, _, .z, ?_⟩); refine ⟨_, rfl, ?_⟩; go_frame) | ((with_reducible refine hq_lda ?_); refine ⟨rfl, by kernel_rfl, ?_⟩; refine ⟨_, s_look rfl, ?_⟩; refine ⟨_, rfl, ?_⟩; ((repeat ((fail_if_success refine ⟨_, _, _, .z, ?_⟩); refine hs ?_)); refine ⟨_, _, _, .z, ?_⟩); refine ⟨rfl, ?_⟩; go_frame) | ((with_reducible refine qB_neRp ?_); refine ⟨rfl, _, _, rfl, rfl, _, hq, ?_⟩; go_frame) | ((with_reducible refine hq_ldo ?_); refine ⟨rfl, ?_⟩; refine ⟨c_look rfl, ?_⟩; refine ⟨_, rfl, ?_⟩; refine ⟨_, ‹_›, ?_⟩; go_frame) | go_big_quiet_step ((with_reducible exact hq_call (number_v hn _))))); (with_reducible refine wpQuiet_nil (hKQ _ ?_)); clear hKQ; clear KQ H; intro w1 H)
                go_wp2_with (fail)
                go_roundw
                case rel =>
                  refine ⟨j + 1 + 1, hK, rfl, fun i h hi => ?_, H.below⟩
                  by_cases hij : i < j + 1
                  · exact HA.out i h hij
                  · obtain rfl : i = j + 1 := by omega
                    rw [HXE.out]
                    exact HST.out
                case measure => show rs.length - (((j + 1 : Nat) : Int) + 1).toNat < rs.length - ((j + 1 : Nat) : Int).toNat; omega
              · have hstep : stepB rs n (j + 1) (⟨ix, 3, xr, xp, e⟩ : Rp) = false := by rw [stepB, hg, hpve]; simp at d ⊢; omega
                have HST := Lib.hid hstep
                clear hstep hg q0 hpve
                go_wp2_with (first | ((with_reducible refine Hp.allo H ?_); refine ⟨rfl, ?_⟩; refine ⟨_, z_look rfl, ?_⟩; (clear H; intro g1 w1 H); go_frame) | ((with_reducible refine Hp.ld H ?_); refine ⟨rfl, ?_⟩; refine ⟨c_look rfl, ?_⟩; refine ⟨_, _, rfl, ?_⟩; ((repeat ((fail_if_success refine ⟨_, _, _, .z, ?_⟩); refine hs ?_)); refine ⟨_, _, _, .z, ?_⟩); refine ⟨_, rfl, ?_⟩; go_frame) | ((with_reducible refine Hp.lds H ?_); refine ⟨rfl, by kernel_rfl, ?_⟩; refine ⟨_, s_look rfl, ?_⟩; refine ⟨_, _, rfl, ?_⟩; ((repeat ((fail_if_success refine ⟨_, _, _, .z, ?_⟩); refine hs ?_)); refine ⟨_, _, _, .z, ?_⟩); (first | refine ⟨enC e, rfl, rfl, ?_⟩ | refine ⟨baC xr xp, rfl, rfl, ?_⟩); go_frame) | ((with_reducible refine Hp.sta H ?_); refine ⟨rfl, ?_⟩; refine ⟨_, s_look rfl, ?_⟩; refine ⟨_, rfl, _, rfl, rfl, ?_⟩; ((repeat ((fail_if_success refine ⟨_, _, _, .z, ?_⟩); refine hs ?_)); refine ⟨_, _, _, .z, ?_⟩); refine ⟨rfl, rfl, ?_⟩; (clear H; intro w1 H; simp only [List.set] at H); go_frame) | ((with_reducible refine Hp.bdl (t := 55) (parts := [_, _]) H ?_); refine ⟨rfl, _, b_rp2 _ _, ?_⟩; go_frame) | ((with_reducible refine Hp.ldrO H ?_); refine ⟨rfl, by kernel_rfl, _, _, rfl, _, hrk, s_Report, ?_⟩; go_frame) | ((with_reducible refine Hp.str H ?_); refine ⟨rfl, ?_⟩; refine ⟨_, s_look rfl, ?_⟩; refine ⟨_, _, rfl, baC xr xp, rfl, rfl, ?_⟩; ((repeat ((fail_if_success refine ⟨_, _, _, .z, ?_⟩); refine hs ?_)); refine ⟨_, _, _, .z, ?_⟩); refine ⟨rfl, rpC ⟨ix, 3, xr, xp, en0⟩, rfl, _, rfl, Nat.le_of_ble_eq_true rfl, ?_⟩; (clear H; intro w1 H; simp only [List.set] at H); go_frame) | ((with_reducible refine (chosen_v hc _).mono ?_); rintro _ w1 ⟨rfl, hb⟩; replace H := H.call hb; clear hb))
                ((with_reducible refine wp_region_hpK H (by kernel_rfl) (by kernel_rfl) ?_); intro _ KQ hKQ; (repeat (first | ((with_reducible refine hq_ld ?_); refine ⟨rfl, ?_⟩; refine ⟨c_look rfl, ?_⟩; refine ⟨_, _, rfl, ?_⟩; ((repeat ((fail_if_success refine ⟨_, _, _, .z, ?_⟩); refine hs ?_)); refine ⟨_, _, _, .z, ?_⟩); refine ⟨_, rfl, ?_⟩; go_frame) | ((with_reducible refine hq_lda ?_); refine ⟨rfl, by kernel_rfl, ?_⟩; refine ⟨_, s_look rfl, ?_⟩; refine ⟨_, rfl, ?_⟩; ((repeat ((fail_if_success refine ⟨_, _, _, .z, ?_⟩); refine hs ?_)); refine ⟨_, _, _, .z, ?_⟩); refine ⟨rfl, ?_⟩; go_frame) | ((with_reducible refine qB_neRp ?_); refine ⟨rfl, _, _, rfl, rfl, _, hq, ?_⟩; go_frame) | ((with_reducible refine hq_ldo ?_); refine ⟨rfl, ?_⟩; refine ⟨c_look rfl, ?_⟩; refine ⟨_, rfl, ?_⟩; refine ⟨_, ‹_›, ?_⟩; go_frame) | go_big_quiet_step ((with_reducible exact hq_call (number_v hn _))))); (with_reducible refine wpQuiet_nil (hKQ _ ?_)); clear hKQ; clear KQ H; intro w1 H)
                go_wp2_with (fail)
                go_ret
                exact ⟨ret_bool (repsB_no hK (by rw [HXE.out]; exact HST.out)).symm, H.below⟩
      have hm := True.intro
      have hc := True.intro
      by_cases h4 : st = 4
      · subst h4
        clear h2 h3
        rcases ch2 (rpEq (⟨ix, 4, xr, xp, e⟩ : Rp) ⟨ix, 4, 0, 0, en0⟩) (numB ix 1) with q0 | ⟨q0, hn⟩ | ⟨q0, hn⟩
        · have hq : (!rpEq (⟨ix, 4, xr, xp, e⟩ : Rp) ⟨ix, 4, 0, 0, en0⟩) = true := by rw [q0]; rfl
          have hn := True.intro
          go_wp2_with (first | ((with_reducible refine Hp.allo H ?_); refine ⟨rfl, ?_⟩; refine ⟨_, z_look rfl, ?_⟩; (clear H; intro g1 w1 H); go_frame) | ((with_reducible refine Hp.ld H ?_); refine ⟨rfl, ?_⟩; refine ⟨c_look rfl, ?_⟩; refine ⟨_, _, rfl, ?_⟩; ((repeat ((fail_if_success refine ⟨_, _, _, .z, ?_⟩); refine hs ?_)); refine ⟨_, _, _, .z, ?_⟩); refine ⟨_, rfl, ?_⟩; go_frame) | ((with_reducible refine Hp.sta H ?_); refine ⟨rfl, ?_⟩; refine ⟨_, s_look rfl, ?_⟩; refine ⟨_, rfl, _, rfl, rfl, ?_⟩; ((repeat ((fail_if_success refine ⟨_, _, _, .z, ?_⟩); refine hs ?_)); refine ⟨_, _, _, .z, ?_⟩); refine ⟨rfl, rfl, ?_⟩; (clear H; intro w1 H; simp only [List.set] at H); go_frame) | ((with_reducible refine Hp.bdl (t := 55) (parts := [_, _]) H ?_); refine ⟨rfl, _, b_rp2 _ _, ?_⟩; go_frame) | ((with_reducible refine Hp.ldrO H ?_); refine ⟨rfl, by kernel_rfl, _, _, rfl, _, hrk, s_Report, ?_⟩; go_frame))
          ((with_reducible refine wp_region_hpK H (by kernel_rfl) (by kernel_rfl) ?_); intro _ KQ hKQ; (repeat (first | go_big_quiet_skip | ((with_reducible refine hq_lda ?_); refine ⟨rfl, by kernel_rfl, ?_⟩; refine ⟨_, s_look rfl, ?_⟩; refine ⟨_, rfl, ?_⟩; ((repeat ((fail_if_success refine ⟨_, _, _, .z, ?_⟩); refine hs ?_)); refine ⟨_, _, _, .z, ?_⟩); refine ⟨rfl, ?_⟩; go_frame) | ((with_reducible refine qB_neRp ?_); refine ⟨rfl, _, _, rfl, rfl, _, hq, ?_⟩; go_frame) | go_big_quiet_step ((with_reducible exact hq_call (number_v hn _))))); (with_reducible refine wpQuiet_nil (hKQ _ ?_)); clear hKQ; clear KQ H; intro w1 H)
          go_wp2_with (fail)
          go_ret
          refine ⟨ret_bool (repsB_no hK ?_).symm, H.below⟩
          rw [HXE.out, stepB, repB_eq]
          unfold goodRp bareRp
          simp [*]
        · have hq : (!rpEq (⟨ix, 4, xr, xp, e⟩ : Rp) ⟨ix, 4, 0, 0, en0⟩) = false := by rw [q0]; rfl
          go_wp2_with (first | ((with_reducible refine Hp.allo H ?_); refine ⟨rfl, ?_⟩; refine ⟨_, z_look rfl, ?_⟩; (clear H; intro g1 w1 H); go_frame) | ((with_reducible refine Hp.ld H ?_); refine ⟨rfl, ?_⟩; refine ⟨c_look rfl, ?_⟩; refine ⟨_, _, rfl, ?_⟩; ((repeat ((fail_if_success refine ⟨_, _, _, .z, ?_⟩); refine hs ?_)); refine ⟨_, _, _, .z, ?_⟩); refine ⟨_, rfl, ?_⟩; go_frame) | ((with_reducible refine Hp.sta H ?_); refine ⟨rfl, ?_⟩; refine ⟨_, s_look rfl, ?_⟩; refine ⟨_, rfl, _, rfl, rfl, ?_⟩; ((repeat ((fail_if_success refine ⟨_, _, _, .z, ?_⟩); refine hs ?_)); refine ⟨_, _, _, .z, ?_⟩); refine ⟨rfl, rfl, ?_⟩; (clear H; intro w1 H; simp only [List.set] at H); go_frame) | ((with_reducible refine Hp.bdl (t := 55) (parts := [_, _]) H ?_); refine ⟨rfl, _, b_rp2 _ _, ?_⟩; go_frame) | ((with_reducible refine Hp.ldrO H ?_); refine ⟨rfl, by kernel_rfl, _, _, rfl, _, hrk, s_Report, ?_⟩; go_frame))
          ((with_reducible refine wp_region_hpK H (by kernel_rfl) (by kernel_rfl) ?_); intro _ KQ hKQ; (repeat (first | go_big_quiet_skip | ((with_reducible refine hq_ld ?_); refine ⟨rfl, ?_⟩; refine ⟨c_look rfl, ?_⟩; refine ⟨_, _, rfl, ?_⟩; ((repeat ((fail_if_success refine ⟨_, _, _, .z, ?_⟩); refine hs ?_)); refine ⟨_, _, _, .z, ?_⟩); refine ⟨_, rfl, ?_⟩; go_frame) | ((with_reducible refine hq_lda ?_); refine ⟨rfl, by kernel_rfl, ?_⟩; refine ⟨_, s_look rfl, ?_⟩; refine ⟨_, rfl, ?_⟩; ((repeat ((fail_if_success refine ⟨_, _, _, .z, ?_⟩); refine hs ?_)); refine ⟨_, _, _, .z, ?_⟩); refine ⟨rfl, ?_⟩; go_frame) | ((with_reducible refine qB_neRp ?_); refine ⟨rfl, _, _, rfl, rfl, _, hq, ?_⟩; go_frame) | go_big_quiet_step ((with_reducible exact hq_call (number_v hn _))))); (with_reducible refine wpQuiet_nil (hKQ _ ?_)); clear hKQ; clear KQ H; intro w1 H)
          go_wp2_with (fail)
          go_ret
          refine ⟨ret_bool (repsB_no hK ?_).symm, H.below⟩
          rw [HXE.out, stepB, repB_eq]
          unfold goodRp bareRp
          simp [*]
        · have hq : (!rpEq (⟨ix, 4, xr, xp, e⟩ : Rp) ⟨ix, 4, 0, 0, en0⟩) = false := by rw [q0]; rfl
          have hg : repB (⟨ix, 4, xr, xp, e⟩ : Rp) n = true := by rw [repB_eq]; unfold goodRp bareRp; simp [*]
          rcases Nat.eq_zero_or_pos k with hk0 | hk0
          · obtain rfl := hk0
            have hstep : stepB rs n 0 (⟨ix, 4, xr, xp, e⟩ : Rp) = true := by rw [stepB, hg]; rfl
            have HST := Lib.hid hstep
            clear hstep hg q0
            go_wp2_with (first | ((with_reducible refine Hp.allo H ?_); refine ⟨rfl, ?_⟩; refine ⟨_, z_look rfl, ?_⟩; (clear H; intro g1 w1 H); go_frame) | ((with_reducible refine Hp.ld H ?_); refine ⟨rfl, ?_⟩; refine ⟨c_look rfl, ?_⟩; refine ⟨_, _, rfl, ?_⟩; ((repeat ((fail_if_success refine ⟨_, _, _, .z, ?_⟩); refine hs ?_)); refine ⟨_, _, _, .z, ?_⟩); refine ⟨_, rfl, ?_⟩; go_frame) | ((with_reducible refine Hp.sta H ?_); refine ⟨rfl, ?_⟩; refine ⟨_, s_look rfl, ?_⟩; refine ⟨_, rfl, _, rfl, rfl, ?_⟩; ((repeat ((fail_if_success refine ⟨_, _, _, .z, ?_⟩); refine hs ?_)); refine ⟨_, _, _, .z, ?_⟩); refine ⟨rfl, rfl, ?_⟩; (clear H; intro w1 H; simp only [List.set] at H); go_frame) | ((with_reducible refine Hp.bdl (t := 55) (parts := [_, _]) H ?_); refine ⟨rfl, _, b_rp2 _ _, ?_⟩; go_frame) | ((with_reducible refine Hp.ldrO H ?_); refine ⟨rfl, by kernel_rfl, _, _, rfl, _, hrk, s_Report, ?_⟩; go_frame))
            ((with_reducible refine wp_region_hpK H (by kernel_rfl) (by kernel_rfl) ?_); intro _ KQ hKQ; (repeat (first | go_big_quiet_skip | ((with_reducible refine hq_ld ?_); refine ⟨rfl, ?_⟩; refine ⟨c_look rfl, ?_⟩; refine ⟨_, _, rfl, ?_⟩; ((repeat ((fail_if_success refine ⟨_, _, _, .z, ?_⟩); refine hs ?_)); refine ⟨_, _, _, .z, ?_⟩); refine ⟨_, rfl, ?_⟩; go_frame) | ((with_reducible refine hq_lda ?_); refine ⟨rfl, by kernel_rfl, ?_⟩; refine ⟨_, s_look rfl, ?_⟩; refine ⟨_, rfl, ?_⟩; ((repeat ((fail_if_success refine ⟨_, _, _, .z, ?_⟩); refine hs ?_)); refine ⟨_, _, _, .z, ?_⟩); refine ⟨rfl, ?_⟩; go_frame) | ((with_reducible refine qB_neRp ?_); refine ⟨rfl, _, _, rfl, rfl, _, hq, ?_⟩; go_frame) | go_big_quiet_step ((with_reducible exact hq_call (number_v hn _))))); (with_reducible refine wpQuiet_nil (hKQ _ ?_)); clear hKQ; clear KQ H; intro w1 H)
            go_wp2_with (fail)
            go_roundw
            case rel =>
              refine ⟨0 + 1, hK, rfl, fun i h hi => ?_, H.below⟩
              obtain rfl : i = 0 := by omega
              rw [HXE.out]
              exact HST.out
            case measure => show rs.length - ((0 : Int) + 1).toNat < rs.length - (0 : Int).toNat; omega
          · obtain ⟨j, rfl⟩ : ∃ j, k = j + 1 := ⟨k - 1, by omega⟩
            have hpv := HPV.out j rfl
            obtain ⟨pv, hpve⟩ : ∃ pv, (rs.getD (j + 1 - 1) rp0).ix = pv := ⟨_, rfl⟩
            rw [hpve] at hpv
            have hjs : ((j + 1 : Nat) : Int) - 1 = j := by omega
            cases d : decide (ix ≤ pv)
            · have hstep : stepB rs n (j + 1) (⟨ix, 4, xr, xp, e⟩ : Rp) = true := by rw [stepB, hg, hpve]; simp at d ⊢; exact d
              have HST := Lib.hid hstep
              clear hstep hg q0 hpve
              go_wp2_with (first | ((with_reducible refine Hp.allo H ?_); refine ⟨rfl, ?_⟩; refine ⟨_, z_look rfl, ?_⟩; (clear H; intro g1 w1 H); go_frame) | ((with_reducible refine Hp.ld H ?_); refine ⟨rfl, ?_⟩; refine ⟨c_look rfl, ?_⟩; refine ⟨_, _, rfl, ?_⟩; ((repeat ((fail_if_success refine ⟨_, _, _, .z, ?_⟩); refine hs ?_)); refine ⟨_, _, _, .z, ?_⟩); refine ⟨_, rfl, ?_⟩; go_frame) | ((with_reducible refine Hp.sta H ?_); refine ⟨rfl, ?_⟩; refine ⟨_, s_look rfl, ?_⟩; refine ⟨_, rfl, _, rfl, rfl, ?_⟩; ((repeat ((fail_if_success refine ⟨_, _, _, .z, ?_⟩); refine hs ?_)); refine ⟨_, _, _, .z, ?_⟩); refine ⟨rfl, rfl, ?_⟩; (clear H; intro w1 H; simp only [List.set] at H); go_frame) | ((with_reducible refine Hp.bdl (t := 55) (parts := [_, _]) H ?_); refine ⟨rfl, _, b_rp2 _ _, ?_⟩; go_frame) | ((with_reducible refine Hp.ldrO H ?_); refine ⟨rfl, by kernel_rfl, _, _, rfl, _, hrk, s_Report, ?_⟩; go_frame))
              ((with_reducible refine wp_region_hpK H (by kernel_rfl) (by kernel_rfl) ?_); intro _ KQ hKQ; (repeat (first | ((with_reducible refine hq_ld ?_); refine ⟨rfl, ?_⟩; refine ⟨c_look rfl, ?_⟩; refine ⟨_, _, rfl, ?_⟩; ((repeat ((fail_if_success refine ⟨_, _, _, .z, ?_⟩); refine hs ?_)); refine ⟨_, _, _, .z, ?_⟩); refine ⟨_, rfl, ?_⟩; go_frame) | ((with_reducible refine hq_lda ?_); refine ⟨rfl, by kernel_rfl, ?_⟩; refine ⟨_, s_look rfl, ?_⟩; refine ⟨_, rfl, ?_⟩; ((repeat ((fail_if_success refine ⟨_, _, _, .z, ?_⟩); refine hs ?_)); refine ⟨_, _, _, .z, ?_⟩); refine ⟨rfl, ?_⟩; go_frame) | ((with_reducible refine qB_neRp ?_); refine ⟨rfl, _, _, rfl, rfl, _, hq, ?_⟩; go_frame) | ((with_reducible refine hq_ldo ?_); refine ⟨rfl, ?_⟩; refine ⟨c_look rfl, ?_⟩; refine ⟨_, rfl, ?_⟩; refine ⟨_, ‹_›, ?_⟩; go_frame) | go_big_quiet_step ((with_reducible exact hq_call (number_v hn _))))); (with_reducible refine wpQuiet_nil (hKQ _ ?_)); clear hKQ; clear KQ H; intro w1 H)
              go_wp2_with (fail)
              go_roundw
              case rel =>
                refine ⟨j + 1 + 1, hK, rfl, fun i h hi => ?_, H.below⟩
                by_cases hij : i < j + 1
                · exact HA.out i h hij
                · obtain rfl : i = j + 1 := by omega
                  rw [HXE.out]
                  exact HST.out
              case measure => show rs.length - (((j + 1 : Nat) : Int) + 1).toNat < rs.length - ((j + 1 : Nat) : Int).toNat; omega
            · have hstep : stepB rs n (j + 1) (⟨ix, 4, xr, xp, e⟩ : Rp) = false := by rw [stepB, hg, hpve]; simp at d ⊢; omega
              have HST := Lib.hid hstep
              clear hstep hg q0 hpve
              go_wp2_with (first | ((with_reducible refine Hp.allo H ?_); refine ⟨rfl, ?_⟩; refine ⟨_, z_look rfl, ?_⟩; (clear H; intro g1 w1 H); go_frame) | ((with_reducible refine Hp.ld H ?_); refine ⟨rfl, ?_⟩; refine ⟨c_look rfl, ?_⟩; refine ⟨_, _, rfl, ?_⟩; ((repeat ((fail_if_success refine ⟨_, _, _, .z, ?_⟩); refine hs ?_)); refine ⟨_, _, _, .z, ?_⟩); refine ⟨_, rfl, ?_⟩; go_frame) | ((with_reducible refine Hp.sta H ?_); refine ⟨rfl, ?_⟩; refine ⟨_, s_look rfl, ?_⟩; refine ⟨_, rfl, _, rfl, rfl, ?_⟩; ((repeat ((fail_if_success refine ⟨_, _, _, .z, ?_⟩); refine hs ?_)); refine ⟨_, _, _, .z, ?_⟩); refine ⟨rfl, rfl, ?_⟩; (clear H; intro w1 H; simp only [List.set] at H); go_frame) | ((with_reducible refine Hp.bdl (t := 55) (parts := [_, _]) H ?_); refine ⟨rfl, _, b_rp2 _ _, ?_⟩; go_frame) | ((with_reducible refine Hp.ldrO H ?_); refine ⟨rfl, by kernel_rfl, _, _, rfl, _, hrk, s_Report, ?_⟩; go_frame))
              ((with_reducible refine wp_region_hpK H (by kernel_rfl) (by kernel_rfl) ?_); intro _ KQ hKQ; (repeat (first | ((with_reducible refine hq_ld ?_); refine ⟨rfl, ?_⟩; refine ⟨c_look rfl, ?_⟩; refine ⟨_, _, rfl, ?_⟩; ((repeat ((fail_if_success refine ⟨_, _, _, .z, ?_⟩); refine hs ?_)); refine ⟨_, _, _, .z, ?_⟩); refine ⟨_, rfl, ?_⟩; go_frame) | ((with_reducible refine hq_lda ?_); refine ⟨rfl, by kernel_rfl, ?_⟩; refine ⟨_, s_look rfl, ?_⟩; refine ⟨_, rfl, ?_⟩; ((repeat ((fail_if_success refine ⟨_, _, _, .z, ?_⟩); refine hs ?_)); refine ⟨_, _, _, .z, ?_⟩); refine ⟨rfl, ?_⟩; go_frame) | ((with_reducible refine qB_neRp ?_); refine ⟨rfl, _, _, rfl, rfl, _, hq, ?_⟩; go_frame) | ((with_reducible refine hq_ldo ?_); refine ⟨rfl, ?_⟩; refine ⟨c_look rfl, ?_⟩; refine ⟨_, rfl, ?_⟩; refine ⟨_, ‹_›, ?_⟩; go_frame) | go_big_quiet_step ((with_reducible exact hq_call (number_v hn _))))); (with_reducible refine wpQuiet_nil (hKQ _ ?_)); clear hKQ; clear KQ H; intro w1 H)
              go_wp2_with (fail)
              go_ret
              exact ⟨ret_bool (repsB_no hK (by rw [HXE.out]; exact HST.out)).symm, H.below⟩
      have b2 : (st == 2) = false := beq_eq_false_iff_ne.mpr h2
      have b3 : (st == 3) = false := beq_eq_false_iff_ne.mpr h3
      have b4 : (st == 4) = false := beq_eq_false_iff_ne.mpr h4
      have hq := True.intro
      have hn := True.intro
      go_wp2_with (first | ((with_reducible refine Hp.allo H ?_); refine ⟨rfl, ?_⟩; refine ⟨_, z_look rfl, ?_⟩; (clear H; intro g1 w1 H); go_frame) | ((with_reducible refine Hp.ld H ?_); refine ⟨rfl, ?_⟩; refine ⟨c_look rfl, ?_⟩; refine ⟨_, _, rfl, ?_⟩; ((repeat ((fail_if_success refine ⟨_, _, _, .z, ?_⟩); refine hs ?_)); refine ⟨_, _, _, .z, ?_⟩); refine ⟨_, rfl, ?_⟩; go_frame) | ((with_reducible refine Hp.sta H ?_); refine ⟨rfl, ?_⟩; refine ⟨_, s_look rfl, ?_⟩; refine ⟨_, rfl, _, rfl, rfl, ?_⟩; ((repeat ((fail_if_success refine ⟨_, _, _, .z, ?_⟩); refine hs ?_)); refine ⟨_, _, _, .z, ?_⟩); refine ⟨rfl, rfl, ?_⟩; (clear H; intro w1 H; simp only [List.set] at H); go_frame) | ((with_reducible refine Hp.bdl (t := 55) (parts := [_, _]) H ?_); refine ⟨rfl, _, b_rp2 _ _, ?_⟩; go_frame) | ((with_reducible refine Hp.ldrO H ?_); refine ⟨rfl, by kernel_rfl, _, _, rfl, _, hrk, s_Report, ?_⟩; go_frame))
      go_ret
      refine ⟨ret_bool (repsB_no hK ?_).symm, H.below⟩
      rw [HXE.out, stepB, repB_eq]
      unfold goodRp bareRp
      simp [*]
    · obtain rfl : k = rs.length := by omega
      have hall : repsOk 0 rs n = true := (repsOk_step rs n).2 fun i h => HA.out i h h
      have hm := True.intro
      have hc := True.intro
      have hq := True.intro
      have hn := True.intro
      have hrk := True.intro
      cases d : decide ((rs.length : Int) ≤ 24)
      all_goals
        go_wp2_with (first | (fail))
        go_ret
        refine ⟨ret_bool ?_, H.below⟩
        unfold repsB
        rw [hall, Bool.true_and]
        first
        | (have := of_decide_eq_true d; exact (decide_eq_true (by omega)).symm)
        | (have := of_decide_eq_false d; exact (decide_eq_false (by omega)).symm)
end Go.Proofs.YtajgikjmoeemnaaDoor
