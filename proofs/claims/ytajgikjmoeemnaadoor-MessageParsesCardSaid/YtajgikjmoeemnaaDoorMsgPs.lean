/-
  THE WALK OF THE LAW MessageParses.
-/
import Derived.Test.YtajgikjmoeemnaaDoorRdF
import Derived.Test.YtajgikjmoeemnaaDoorRdG
import Derived.Test.YtajgikjmoeemnaaDoorMsgJ
import Derived.Test.YtajgikjmoeemnaaDoorFlw
namespace Go.Proofs.YtajgikjmoeemnaaDoor
set_option maxRecDepth 100000
open Go.RowKit
set_option linter.unusedVariables false
set_option linter.unusedSimpArgs false
theorem u8_i1p : (Tryd.prog.info? 5).map (fun i => i.size) = some 1 := by kernel_rfl
theorem MgR.nilP {w : World} {m : Mg} (h1 : m.rn = 0) (h2 : m.rc = 0) (h3 : m.yn = 0) (h4 : m.yc = 0) : MgR w m [] [] :=
  ⟨h1, fun h => absurd rfl h, fun _ h => (List.not_mem_nil h).elim, by rw [h1]; exact Nat.zero_le _, by rw [h2]; exact Nat.zero_le _, h3, fun h => absurd rfl h, by rw [h3]; exact Nat.zero_le _, by rw [h4]; exact Nat.zero_le _⟩
theorem rZp (w : World) : MgR w mg0 [] [] := MgR.nilP rfl rfl rfl rfl
theorem sZp : sameM mg0 [] [] mg0 [] [] = true := sameM_iff.2 ⟨rfl, rfl, rfl⟩
/-- Parse finds none -/
theorem pparse_no {l : List UInt8} {n : Int} {w : World} (h : paOk l n = false) (A : Option Addr) (c : Nat) (hF : FldW w) (hr : Rd w A l) (hc : l.length ≤ c ∧ c ≤ maxLen) :
    Calls Tryd.prog 17 #[.slice A l.length c, .int .i64 n] w (RetV w (.tuple #[.agg (mgC mg0).toArray, .int .i64 200])) := by
  refine (parse_any A c l n w hF hr hc.1 hc.2).mono fun e w' hp => ?_
  unfold RetPM at hp
  rw [if_neg (by rw [h]; decide)] at hp
  exact hp
theorem rparse_no (hP : RPrints) {l : List UInt8} {n : Int} {w : World} (h : paOk l n = false) (A : Option Addr) (c : Nat) (hr : Rd w A l) (hc : l.length ≤ c) (hm : c ≤ maxLen) (b0 : -9223372036854775808 ≤ n) (b1 : n ≤ 9223372036854775807) :
    Calls Tryd.prog 18 #[.slice A l.length c, .int .i64 n] w (RetV w (.tuple #[.agg (mgC mg0).toArray, .int .i64 200])) := by
  refine (qparse_any hP A c l n w hr hc hm b0 b1).mono fun e w' hp => ?_
  unfold RetPR at hp
  rw [if_neg (by rw [h]; decide)] at hp
  exact hp
/-- Parse finds one, with no bytes, or with some -/
def RetP0 (w : World) (t : Mg) (rs : List Rp) (e : Ending) (w' : World) : Prop :=
  ∃ Ar cr By dy, dy ≤ maxLen ∧ e = .returned (.tuple #[.agg (mgC (cpM t rs [] Ar cr By dy)).toArray, .int .i64 0]) ∧ Hp w w' [rwI Ar cr rs]
def RetP1 (w : World) (t : Mg) (rs : List Rp) (y : List UInt8) (e : Ending) (w' : World) : Prop :=
  ∃ Ar cr gy k, y.length + k ≤ maxLen ∧ e = .returned (.tuple #[.agg (mgC (cpM t rs y Ar cr (some ⟨gy, 0, none⟩) (y.length + k))).toArray, .int .i64 0]) ∧ Hp w w' [rwI Ar cr rs, .obj gy (cvL y k)]
theorem pparse_0 {l : List UInt8} {n : Int} {w : World} (h : paOk l n = true) {t : Mg} {rs : List Rp} (h1 : (allP l).t = t) (h2 : (allP l).rs = rs) (h3 : (allP l).y = []) (A : Option Addr) (c : Nat) (hF : FldW w) (hr : Rd w A l) (hc : l.length ≤ c ∧ c ≤ maxLen) :
    Calls Tryd.prog 17 #[.slice A l.length c, .int .i64 n] w (RetP0 w t rs) := by
  subst h1 h2
  refine (parse_any A c l n w hF hr hc.1 hc.2).mono fun e w' hp => ?_
  unfold RetPM at hp
  rw [if_pos h, h3] at hp
  obtain ⟨Ar, cr, By, dy, Yi, hyi, he, H⟩ := hp
  refine ⟨Ar, cr, By, dy, ?_, he, H.sub ((List.nil_sublist Yi).cons_cons _)⟩
  rcases hyi with ⟨_, _, rfl, _⟩ | ⟨gy, S, k, Yr, hk, _, _, rfl, _⟩
  · exact Nat.zero_le _
  · exact hk
theorem pparse_1 {l : List UInt8} {n : Int} {w : World} (h : paOk l n = true) {t : Mg} {rs : List Rp} {y : List UInt8} (h1 : (allP l).t = t) (h2 : (allP l).rs = rs) (h3 : (allP l).y = y) (hy : y ≠ []) (A : Option Addr) (c : Nat) (hF : FldW w) (hr : Rd w A l) (hc : l.length ≤ c ∧ c ≤ maxLen) :
    Calls Tryd.prog 17 #[.slice A l.length c, .int .i64 n] w (RetP1 w t rs y) := by
  subst h1 h2 h3
  refine (parse_any A c l n w hF hr hc.1 hc.2).mono fun e w' hp => ?_
  unfold RetPM at hp
  rw [if_pos h] at hp
  obtain ⟨Ar, cr, By, dy, Yi, hyi, he, H⟩ := hp
  rcases hyi with ⟨h0, _⟩ | ⟨gy, S, k, Yr, hk, hS, rfl, rfl, rfl⟩
  · exact absurd h0 hy
  · have hs : S.size = (allP l).y.length := by rw [← hS]; rfl
    rw [hs] at he hk
    refine ⟨Ar, cr, gy, k, hk, he, ?_⟩
    rw [cvO_L, hS] at H
    exact H.sub (((List.nil_sublist Yr).cons_cons _).cons_cons _)
/-- the document's Parse finds one -/
def RetQ (w : World) (t : Mg) (rs : List Rp) (y : List UInt8) (e : Ending) (w' : World) : Prop :=
  ∃ Ar cr By dy Yi, YI By dy y Yi ∧ e = .returned (.tuple #[.agg (mgC (cpM t rs y Ar cr By dy)).toArray, .int .i64 0]) ∧ Hp w w' (rwI Ar cr rs :: Yi)
theorem rparse_y (hP : RPrints) {l : List UInt8} {n : Int} {w : World} (h : paOk l n = true) {t : Mg} {rs : List Rp} {y : List UInt8} (h1 : (allP l).t = t) (h2 : (allP l).rs = rs) (h3 : (allP l).y = y) (A : Option Addr) (c : Nat) (hr : Rd w A l) (hc : l.length ≤ c) (hm : c ≤ maxLen) (b0 : -9223372036854775808 ≤ n) (b1 : n ≤ 9223372036854775807) :
    Calls Tryd.prog 18 #[.slice A l.length c, .int .i64 n] w (RetQ w t rs y) := by
  subst h1 h2 h3
  refine (qparse_any hP A c l n w hr hc hm b0 b1).mono fun e w' hp => ?_
  unfold RetPR at hp
  rw [if_pos h, q_yes h] at hp
  exact hp
theorem mgR0 {w w' : World} {t : Mg} {rs : List Rp} {Ar By : Option Addr} {cr dy : Nat} {L : List Item} (hok : ∀ x ∈ rs, RpOk x) (hd : dy ≤ maxLen) (H : Hp w w' L) (j : Nat) (hj : L[j]? = some (rwI Ar cr rs)) : MgR w' (cpM t rs [] Ar cr By dy) rs [] := by
  have h2 := own_caps (H.holds _ (List.mem_of_getElem? hj))
  exact ⟨rfl, RRp.ofR (H.rd rpC_len j hj), hok, h2.1, h2.2, rfl, fun h => absurd rfl h, Nat.zero_le _, hd⟩
theorem mgR1 {w w' : World} {t : Mg} {rs : List Rp} {y : List UInt8} {Ar : Option Addr} {cr gy k : Nat} {L : List Item} (hok : ∀ x ∈ rs, RpOk x) (hd : y.length + k ≤ maxLen) (H : Hp w w' L) (j i : Nat) (hj : L[j]? = some (rwI Ar cr rs)) (hi : L[i]? = some (.obj gy (cvL y k))) : MgR w' (cpM t rs y Ar cr (some ⟨gy, 0, none⟩) (y.length + k)) rs y := by
  have h2 := own_caps (H.holds _ (List.mem_of_getElem? hj))
  have h3 : w'.heap[gy]? = some (cvL y k) := H.holds _ (List.mem_of_getElem? hi)
  exact ⟨rfl, RRp.ofR (H.rd rpC_len j hj), hok, h2.1, h2.2, rfl, fun _ => ⟨gy, 0, rfl, fun i hi => by rw [Nat.zero_add]; exact (cvL_cell h3 hi).1⟩, Nat.le_add_right _ _, hd⟩
theorem Hp.toLoop {w0 w : World} {a b c d e : Item} {L : List Item} (H : Hp w0 w (a :: b :: c :: d :: e :: L)) : Hp w0 w [d, b, e] :=
  (H.sub (((((List.nil_sublist L).cons_cons e).cons_cons d).cons_cons c).cons_cons b |>.trans (List.sublist_cons_self a (b :: c :: d :: e :: L)))).pick (L' := [d, b, e]) [2, 0, 3] (by decide) rfl
theorem mem4 {a b c d e : Item} {Y : List Item} : ∀ i ∈ Y, i ∈ a :: b :: c :: d :: e :: Y := fun i hi => List.mem_cons_of_mem _ (List.mem_cons_of_mem _ (List.mem_cons_of_mem _ (List.mem_cons_of_mem _ (List.mem_cons_of_mem _ hi))))
theorem mem5 {a b c d e f : Item} {Y : List Item} : ∀ i ∈ Y, i ∈ a :: b :: c :: d :: e :: f :: Y := fun i hi => List.mem_cons_of_mem _ (mem4 i hi)
/-- the loop's relation -/
def OLRel (w : World) (n gy k : Nat) (rest : List Item) (v : Value) (wr : World) : Prop := ∃ (i : Nat) (L' : List UInt8), i ≤ n ∧ L'.length = n ∧ v = .int .i64 i ∧ Hp w wr (.obj gy (cvL L' k) :: rest)
set_option maxRecDepth 100000 in
set_option maxHeartbeats 8000000 in
theorem parses_in (hP : RPrints) (A : Option Addr) (c : Nat) (l : List UInt8) (n : Int) (w : World) (hF : FldW w) (hr : Rd w A l) (hc : l.length ≤ c) (hx : c ≤ maxLen) (b0 : -9223372036854775808 ≤ n) (b1 : n ≤ 9223372036854775807) :
    Calls Tryd.prog 4 #[.slice A l.length c, .int .i64 n] w (RetV w (.bool true)) := by
  have H := Hp.nil w
  by_cases hlen : 3000 < l.length
  · have d : decide ((3000 : Int) < l.length) = true := decide_eq_true (by omega)
    clear hlen
    have HXM := True.intro
    have HNO := True.intro
    (go_enter Tryd.func4, Tryd.ntmps4; go_wp2_with (first | (fail)))
    (go_ret; exact ⟨rfl, H.below⟩)
  have d : decide ((3000 : Int) < l.length) = false := decide_eq_false (by omega)
  have HXM : Hid (([] : List UInt8).length + l.length ≤ 140737488355328) := Lib.hid (by rw [List.length_nil]; omega)
  clear hlen
  cases hpa : paOk l n
  · have HNO := Lib.hid hpa
    clear hpa
    (go_enter Tryd.func4, Tryd.ntmps4; go_wp2_with (first | ((with_reducible refine Hp.allo (ty := 34) H ?_); refine ⟨rfl, ?_⟩; refine ⟨_, z_look rfl, ?_⟩; (clear H; intro gx w1 H); go_frame) | ((with_reducible refine Hp.lda H ?_); refine ⟨rfl, by kernel_rfl, ?_⟩; refine ⟨_, s_look rfl, ?_⟩; refine ⟨_, rfl, ?_⟩; (first | refine ⟨_, _, _, .z, ?_⟩ | refine ⟨_, _, _, .s .z, ?_⟩ | refine ⟨_, _, _, .s (.s .z), ?_⟩ | refine ⟨_, _, _, .s (.s (.s .z)), ?_⟩); refine ⟨rfl, ?_⟩; go_frame) | ((with_reducible refine Hp.sta H ?_); refine ⟨rfl, ?_⟩; refine ⟨_, s_look rfl, ?_⟩; refine ⟨_, rfl, _, rfl, rfl, ?_⟩; (first | refine ⟨_, _, _, .z, ?_⟩ | refine ⟨_, _, _, .s .z, ?_⟩ | refine ⟨_, _, _, .s (.s .z), ?_⟩ | refine ⟨_, _, _, .s (.s (.s .z)), ?_⟩); refine ⟨rfl, rfl, ?_⟩; (clear H; intro w1 H; simp only [List.set] at H); go_frame) | ((with_reducible refine Hp.bsl0 H u8_slice u8_i1p ?_); refine ⟨rfl, ?_⟩; (clear H; intro g1 w1 H); (replace H : Hp w w1 (.bytes (some ⟨g1, 0, none⟩) 0 [] :: _) := H); go_frame) | (at_builtin; refine H.wlAppendBytes rfl _ _ rfl 0 _ _ _ _ (by rfl) rfl rfl _ _ _ _ (by rfl) rfl (hr.below H.below) HXM.out ?_; (clear H; intro A1 c1 w1 H); simp only [List.set, List.nil_append] at H) | ((with_reducible refine (pparse_no HNO.out _ _ (hF.below H.below) (H.o 0 rfl).rd (H.o 0 rfl).caps).mono ?_); rintro _ w1 ⟨rfl, hb⟩; replace H := H.call hb; clear hb) | ((with_reducible refine (rparse_no hP HNO.out A c (hr.below H.below) hc hx b0 b1).mono ?_); rintro _ w1 ⟨rfl, hb⟩; replace H := H.call hb; clear hb) | ((with_reducible refine (rsame_v sZp (rZp _) (rZp _)).mono ?_); rintro _ w1 ⟨rfl, hb⟩; replace H := H.call hb; clear hb)))
    refine wp_loop_rounds 1 ?_
    rw [rounds_succ]
    go_wp2_with (first | ((with_reducible refine Hp.ld H ?_); refine ⟨rfl, ?_⟩; refine ⟨c_look rfl, ?_⟩; refine ⟨_, _, rfl, ?_⟩; (first | refine ⟨_, _, _, .z, ?_⟩ | refine ⟨_, _, _, .s .z, ?_⟩ | refine ⟨_, _, _, .s (.s .z), ?_⟩ | refine ⟨_, _, _, .s (.s (.s .z)), ?_⟩); refine ⟨_, rfl, ?_⟩; go_frame) | ((with_reducible refine Hp.cvS H ?_); refine ⟨rfl, _, _, _, rfl, l, (H.o 2 rfl).rd, rfl, ?_⟩; go_frame) | ((with_reducible refine Hp.cvS H ?_); refine ⟨rfl, _, _, _, rfl, l, hr.below H.below, rfl, ?_⟩; go_frame))
    (go_ret; exact ⟨rfl, H.below⟩)
  have hl1 : l.length ≤ maxLen := Nat.le_trans hc hx
  have hok := (all_ok hl1).2.1
  obtain ⟨t, ht⟩ : ∃ t, (allP l).t = t := ⟨_, rfl⟩
  obtain ⟨rs, hrs⟩ : ∃ t, (allP l).rs = t := ⟨_, rfl⟩
  obtain ⟨y, hyy⟩ : ∃ t, (allP l).y = t := ⟨_, rfl⟩
  rw [hrs] at hok
  have hyb := (all_ok hl1).2.2.2
  rw [hyy] at hyb
  have HOK := Lib.hid hok
  have HT := Lib.hid ht
  have HRS := Lib.hid hrs
  have HPA := Lib.hid hpa
  have HSM : Hid (∀ a b c d a' b' c' d', sameM (cpM t rs y a b c d) rs y (cpM t rs y a' b' c' d') rs y = true) := Lib.hid (fun a b c d a' b' c' d' => sameM_of (m := cpM t rs y a b c d) (m' := cpM t rs y a' b' c' d') rfl rs y)
  clear hok ht hrs hpa hl1
  by_cases h0 : y = []
  · subst h0
    have HY := Lib.hid hyy
    clear hyy hyb
    (go_enter Tryd.func4, Tryd.ntmps4; go_wp2_with (first | ((with_reducible refine Hp.allo (ty := 34) H ?_); refine ⟨rfl, ?_⟩; refine ⟨_, z_look rfl, ?_⟩; (clear H; intro gx w1 H); go_frame) | ((with_reducible refine Hp.lda H ?_); refine ⟨rfl, by kernel_rfl, ?_⟩; refine ⟨_, s_look rfl, ?_⟩; refine ⟨_, rfl, ?_⟩; (first | refine ⟨_, _, _, .z, ?_⟩ | refine ⟨_, _, _, .s .z, ?_⟩ | refine ⟨_, _, _, .s (.s .z), ?_⟩ | refine ⟨_, _, _, .s (.s (.s .z)), ?_⟩); refine ⟨rfl, ?_⟩; go_frame) | ((with_reducible refine Hp.sta H ?_); refine ⟨rfl, ?_⟩; refine ⟨_, s_look rfl, ?_⟩; refine ⟨_, rfl, _, rfl, rfl, ?_⟩; (first | refine ⟨_, _, _, .z, ?_⟩ | refine ⟨_, _, _, .s .z, ?_⟩ | refine ⟨_, _, _, .s (.s .z), ?_⟩ | refine ⟨_, _, _, .s (.s (.s .z)), ?_⟩); refine ⟨rfl, rfl, ?_⟩; (clear H; intro w1 H; simp only [List.set] at H); go_frame) | ((with_reducible refine Hp.bsl0 H u8_slice u8_i1p ?_); refine ⟨rfl, ?_⟩; (clear H; intro g1 w1 H); (replace H : Hp w w1 (.bytes (some ⟨g1, 0, none⟩) 0 [] :: _) := H); go_frame) | (at_builtin; refine H.wlAppendBytes rfl _ _ rfl 0 _ _ _ _ (by rfl) rfl rfl _ _ _ _ (by rfl) rfl (hr.below H.below) HXM.out ?_; (clear H; intro A1 c1 w1 H); simp only [List.set, List.nil_append] at H) | ((with_reducible refine (pparse_0 HPA.out HT.out HRS.out HY.out _ _ (hF.below H.below) (H.o 0 rfl).rd (H.o 0 rfl).caps).mono ?_); rintro _ w1 ⟨Ar, cr, By, dy, hd, rfl, HQ⟩; replace H := HQ.onto H; clear HQ; simp only [List.cons_append, List.nil_append] at H; (obtain ⟨M, hM⟩ : ∃ M, cpM t rs [] Ar cr By dy = M := ⟨_, rfl⟩); (have hyn : M.yn = 0 := by rw [← hM]; rfl); rw [hM]; have HM := Lib.hid hM; clear hM) | ((with_reducible refine (rparse_y hP HPA.out HT.out HRS.out HY.out A c (hr.below H.below) hc hx b0 b1).mono ?_); rintro _ w1 ⟨Ar2, cr2, By2, dy2, Yi, hyi, rfl, HQ⟩; replace H := (HQ.onto H).perm List.perm_append_comm; clear HQ; simp only [List.cons_append, List.nil_append] at H) | ((have hsm : sameM M rs [] (cpM t rs [] Ar2 cr2 By2 dy2) rs [] = true := by rw [← HM.out]; exact HSM.out _ _ _ _ _ _ _ _); (have hmr : MgR w1 M rs [] := by rw [← HM.out]; exact mgR0 HOK.out hd H 2 rfl); (with_reducible refine (rsame_v hsm hmr (ps_R HOK.out hyi H 4 rfl mem4)).mono ?_); rintro _ w1 ⟨rfl, hb⟩; replace H := H.call hb; clear hb; clear hsm hmr hyi)))
    refine wp_loop_rounds 1 ?_
    rw [rounds_succ]
    go_wp2_with (first | ((with_reducible refine Hp.ld H ?_); refine ⟨rfl, ?_⟩; refine ⟨c_look rfl, ?_⟩; refine ⟨_, _, rfl, ?_⟩; (first | refine ⟨_, _, _, .z, ?_⟩ | refine ⟨_, _, _, .s .z, ?_⟩ | refine ⟨_, _, _, .s (.s .z), ?_⟩ | refine ⟨_, _, _, .s (.s (.s .z)), ?_⟩); refine ⟨_, rfl, ?_⟩; go_frame) | ((with_reducible refine Hp.cvS H ?_); refine ⟨rfl, _, _, _, rfl, l, (H.o 3 rfl).rd, rfl, ?_⟩; go_frame) | ((with_reducible refine Hp.cvS H ?_); refine ⟨rfl, _, _, _, rfl, l, hr.below H.below, rfl, ?_⟩; go_frame))
    (go_ret; exact ⟨rfl, H.below⟩)
  · have HY := Lib.hid hyy
    have HY0 := Lib.hid h0
    clear hyy h0
    (go_enter Tryd.func4, Tryd.ntmps4; go_wp2_with (first | ((with_reducible refine Hp.allo (ty := 34) H ?_); refine ⟨rfl, ?_⟩; refine ⟨_, z_look rfl, ?_⟩; (clear H; intro gx w1 H); go_frame) | ((with_reducible refine Hp.lda H ?_); refine ⟨rfl, by kernel_rfl, ?_⟩; refine ⟨_, s_look rfl, ?_⟩; refine ⟨_, rfl, ?_⟩; (first | refine ⟨_, _, _, .z, ?_⟩ | refine ⟨_, _, _, .s .z, ?_⟩ | refine ⟨_, _, _, .s (.s .z), ?_⟩ | refine ⟨_, _, _, .s (.s (.s .z)), ?_⟩); refine ⟨rfl, ?_⟩; go_frame) | ((with_reducible refine Hp.sta H ?_); refine ⟨rfl, ?_⟩; refine ⟨_, s_look rfl, ?_⟩; refine ⟨_, rfl, _, rfl, rfl, ?_⟩; (first | refine ⟨_, _, _, .z, ?_⟩ | refine ⟨_, _, _, .s .z, ?_⟩ | refine ⟨_, _, _, .s (.s .z), ?_⟩ | refine ⟨_, _, _, .s (.s (.s .z)), ?_⟩); refine ⟨rfl, rfl, ?_⟩; (clear H; intro w1 H; simp only [List.set] at H); go_frame) | ((with_reducible refine Hp.bsl0 H u8_slice u8_i1p ?_); refine ⟨rfl, ?_⟩; (clear H; intro g1 w1 H); (replace H : Hp w w1 (.bytes (some ⟨g1, 0, none⟩) 0 [] :: _) := H); go_frame) | (at_builtin; refine H.wlAppendBytes rfl _ _ rfl 0 _ _ _ _ (by rfl) rfl rfl _ _ _ _ (by rfl) rfl (hr.below H.below) HXM.out ?_; (clear H; intro A1 c1 w1 H); simp only [List.set, List.nil_append] at H) | ((with_reducible refine (pparse_1 HPA.out HT.out HRS.out HY.out HY0.out _ _ (hF.below H.below) (H.o 0 rfl).rd (H.o 0 rfl).caps).mono ?_); rintro _ w1 ⟨Ar, cr, gy, k, hd, rfl, HQ⟩; replace H := HQ.onto H; clear HQ; simp only [List.cons_append, List.nil_append] at H; (obtain ⟨M, hM⟩ : ∃ M, cpM t rs y Ar cr (some ⟨gy, 0, none⟩) (y.length + k) = M := ⟨_, rfl⟩); (have hyn : M.yn = y.length := by rw [← hM]; rfl); (have hyA : M.yA = some ⟨gy, 0, none⟩ := by rw [← hM]; rfl); rw [hM]; have HM := Lib.hid hM; clear hM) | ((with_reducible refine (rparse_y hP HPA.out HT.out HRS.out HY.out A c (hr.below H.below) hc hx b0 b1).mono ?_); rintro _ w1 ⟨Ar2, cr2, By2, dy2, Yi, hyi, rfl, HQ⟩; replace H := (HQ.onto H).perm List.perm_append_comm; clear HQ; simp only [List.cons_append, List.nil_append] at H) | ((have hsm : sameM M rs y (cpM t rs y Ar2 cr2 By2 dy2) rs y = true := by rw [← HM.out]; exact HSM.out _ _ _ _ _ _ _ _); (have hmr : MgR w1 M rs y := by rw [← HM.out]; exact mgR1 HOK.out hd H 2 3 rfl rfl); (with_reducible refine (rsame_v hsm hmr (ps_R HOK.out hyi H 5 rfl mem5)).mono ?_); rintro _ w1 ⟨rfl, hb⟩; replace H := H.call hb; clear hb; replace H := H.toLoop; clear hsm hmr hyi)))
    have hat : OLRel w y.length gy k _ (.int .i64 (0 : Nat)) w1 := ⟨0, y, Nat.zero_le _, rfl, rfl, H⟩
    obtain ⟨R, hR0, hat⟩ := R_of hat
    clear H
    have hyb2 := hyb
    unfold maxLen at hyb2
    go_loopw [10] (fun v wr => R v wr) (fun v _ => y.length - (intOf v).toNat)
    case atStart => exact hat
    case round =>
      clear hat
      rw [hR0] at hrel
      obtain ⟨i, L', hk, hlen, rfl, H⟩ := hrel
      by_cases hlt : i < y.length
      · have hlt' : i < L'.length := by rw [hlen]; exact hlt
        have hwi : IntKind.i64.wrap ((i : Int) + 1) = (i : Int) + 1 := IntWalk.i64_in _ (by omega)
        have d1 : decide (i < y.length) = true := decide_eq_true hlt
        go_wp2_with (first | ((with_reducible refine Hp.ld H ?_); refine ⟨rfl, ?_⟩; refine ⟨c_look rfl, ?_⟩; refine ⟨_, _, rfl, ?_⟩; (first | refine ⟨_, _, _, .z, ?_⟩ | refine ⟨_, _, _, .s .z, ?_⟩ | refine ⟨_, _, _, .s (.s .z), ?_⟩ | refine ⟨_, _, _, .s (.s (.s .z)), ?_⟩); refine ⟨_, rfl, ?_⟩; go_frame) | ((with_reducible refine Hp.ldC H ?_); refine ⟨rfl, _, _, rfl, _, _, _, .z, hlt', ?_⟩; go_frame) | ((with_reducible refine Hp.stC H ?_); refine ⟨rfl, _, _, rfl, _, rfl, ⟨by omega, by omega⟩, _, _, _, .z, hlt', ?_⟩; (clear H; intro u w1 H; simp only [List.set] at H); go_frame))
        go_roundw
        case rel =>
          rw [hR0]
          exact ⟨i + 1, _, hlt, by rw [List.length_set]; exact hlen, rfl, H⟩
        case measure => show y.length - ((i : Int) + 1).toNat < y.length - ((i : Int)).toNat; omega
      · obtain rfl : i = y.length := by omega
        have d1 : decide (y.length < y.length) = false := decide_eq_false (by omega)
        go_wp2_with (first | ((with_reducible refine Hp.ld H ?_); refine ⟨rfl, ?_⟩; refine ⟨c_look rfl, ?_⟩; refine ⟨_, _, rfl, ?_⟩; (first | refine ⟨_, _, _, .z, ?_⟩ | refine ⟨_, _, _, .s .z, ?_⟩ | refine ⟨_, _, _, .s (.s .z), ?_⟩ | refine ⟨_, _, _, .s (.s (.s .z)), ?_⟩); refine ⟨_, rfl, ?_⟩; go_frame) | ((with_reducible refine Hp.cvS H ?_); refine ⟨rfl, _, _, _, rfl, l, (H.o 2 rfl).rd, rfl, ?_⟩; go_frame) | ((with_reducible refine Hp.cvS H ?_); refine ⟨rfl, _, _, _, rfl, l, hr.below H.below, rfl, ?_⟩; go_frame))
        (go_ret; exact ⟨rfl, H.below⟩)
end Go.Proofs.YtajgikjmoeemnaaDoor
