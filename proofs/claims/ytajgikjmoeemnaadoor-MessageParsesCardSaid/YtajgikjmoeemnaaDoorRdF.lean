/-
  THE WALK OF sextonref20.Parse.
-/
import Derived.Test.YtajgikjmoeemnaaDoorRdD
import Derived.Test.YtajgikjmoeemnaaDoorRdQ
namespace Go.Proofs.YtajgikjmoeemnaaDoor
set_option maxRecDepth 100000
open Go.RowKit
set_option linter.unusedVariables false
set_option linter.unusedSimpArgs false
theorem qmsg_any (A : Option Addr) (c : Nat) (l : List UInt8) (g : Nat) (w0 w : World) (L : List Item) (hr : Rd w0 A l) (hc : l.length ≤ c) (hm : c ≤ maxLen) (H : Hp w0 w (rrI g A l.length c ⟨0, false⟩ :: L)) :
    Calls Tryd.prog 46 #[.pointer (some ⟨g, 0, none⟩)] w (RetQM w0 g A c l (qAll l) L) := by
  cases hk : kindB (leN (rnV l ⟨0, false⟩ 1) : Nat)
  · exact qmsg_0 A c l g w0 w L hr hc hm H hk
  · rcases kinds hk with h | h | h | h | h | h | h | h | h | h | h | h | h | h | h
    · exact qmsg_1 A c l g w0 w L hr hc hm H (by omega)
    · exact qmsg_2 A c l g w0 w L hr hc hm H (by omega)
    · exact qmsg_3 A c l g w0 w L hr hc hm H (by omega)
    · exact qmsg_4 A c l g w0 w L hr hc hm H (by omega)
    · exact qmsg_5 A c l g w0 w L hr hc hm H (by omega)
    · exact qmsg_6 A c l g w0 w L hr hc hm H (by omega)
    · exact qmsg_7 A c l g w0 w L hr hc hm H (by omega)
    · exact qmsg_8 A c l g w0 w L hr hc hm H (by omega)
    · exact qmsg_9 A c l g w0 w L hr hc hm H (by omega)
    · exact qmsg_10 A c l g w0 w L hr hc hm H (by omega)
    · exact qmsg_11 A c l g w0 w L hr hc hm H (by omega)
    · exact qmsg_12 A c l g w0 w L hr hc hm H (by omega)
    · exact qmsg_13 A c l g w0 w L hr hc hm H (by omega)
    · exact qmsg_14 A c l g w0 w L hr hc hm H (by omega)
    · exact qmsg_15 A c l g w0 w L hr hc hm H (by omega)
theorem qmsg_v {l : List UInt8} {x : Sq} (hx : qAll l = x) (A : Option Addr) (c : Nat) (g : Nat) (w0 w : World) (L : List Item) (hr : Rd w0 A l) (hc : l.length ≤ c) (hm : c ≤ maxLen) (H : Hp w0 w (rrI g A l.length c ⟨0, false⟩ :: L)) :
    Calls Tryd.prog 46 #[.pointer (some ⟨g, 0, none⟩)] w (RetQM w0 g A c l x L) := by
  subst hx
  exact qmsg_any A c l g w0 w L hr hc hm H
def RetPR (l : List UInt8) (n : Int) (w : World) (e : Ending) (w' : World) : Prop :=
  if paOk l n = true then ∃ Ar cr By dy Yi, YI By dy (qAll l).y Yi ∧ e = .returned (.tuple #[.agg (mgC (cpM (qAll l).t (qAll l).rs (qAll l).y Ar cr By dy)).toArray, .int .i64 0]) ∧ Hp w w' (rwI Ar cr (qAll l).rs :: Yi)
  else e = .returned (.tuple #[.agg (mgC mg0).toArray, .int .i64 200]) ∧ Below w.heap.size w w'
theorem retPR_no {l : List UInt8} {n : Int} {w w' : World} (h : paOk l n = false) (hb : Below w.heap.size w w') : RetPR l n w (.returned (.tuple #[.agg (mgC mg0).toArray, .int .i64 200])) w' := by
  unfold RetPR
  rw [if_neg (by rw [h]; decide)]
  exact ⟨rfl, hb⟩
theorem retPR_yes {l : List UInt8} {n : Int} {w w' : World} {s : Qs} {t : Mg} {rs : List Rp} {y : List UInt8} {Ar By : Option Addr} {cr dy : Nat} {Yi : List Item} (h : paOk l n = true) (hx : qAll l = ⟨s, t, rs, y⟩) (hyi : YI By dy y Yi) (H : Hp w w' (rwI Ar cr rs :: Yi)) :
    RetPR l n w (.returned (.tuple #[.agg (mgC (cpM t rs y Ar cr By dy)).toArray, .int .i64 0])) w' := by
  unfold RetPR
  rw [if_pos h, hx]
  exact ⟨Ar, cr, By, dy, Yi, hyi, rfl, H⟩
theorem b_rdq (A : Option Addr) (n c : Nat) : Tryd.prog.built 88 [(0, .slice A n c)] = some [.slice A n c, .int .i64 0, .bool false].toArray := by kernel_rfl
/-- what the document's Print answers -/
def RPrints : Prop := ∀ (m : Mg) (rs : List Rp) (l : List UInt8) (n : Int) (w : World), MgN m → MgR w m rs l → -9223372036854775808 ≤ n → n ≤ 9223372036854775807 →
  Calls Tryd.prog 11 #[.agg (mgC m).toArray, .int .i64 n] w (RetBI w (printL m rs l n) (printE m rs l n))
theorem qprint_v (hP : RPrints) {m : Mg} {rs : List Rp} {l : List UInt8} {n : Int} {P : List UInt8} {E : Int} (h1 : printL m rs l n = P) (h2 : printE m rs l n = E) {w : World} (hN : MgN m) (hR : MgR w m rs l) (b0 : -9223372036854775808 ≤ n) (b1 : n ≤ 9223372036854775807) :
    Calls Tryd.prog 11 #[.agg (mgC m).toArray, .int .i64 n] w (RetBI w P E) := by
  subst h1 h2
  exact hP m rs l n w hN hR b0 b1
theorem ps_R2 {w w' : World} {t : Mg} {rs : List Rp} {y : List UInt8} {Ar By : Option Addr} {cr dy : Nat} {Yi : List Item} {a b d : Item} (hok : ∀ x ∈ rs, RpOk x) (hyi : YI By dy y Yi) (H : Hp w w' (a :: b :: rwI Ar cr rs :: d :: Yi)) : MgR w' (cpM t rs y Ar cr By dy) rs y :=
  ps_R hok hyi H 2 rfl (fun i hi => List.mem_cons_of_mem _ (List.mem_cons_of_mem _ (List.mem_cons_of_mem _ (List.mem_cons_of_mem _ hi))))
theorem Hp.finP {w0 w : World} {a b c r d : Item} {Y : List Item} (H : Hp w0 w (a :: b :: c :: r :: d :: Y)) : Hp w0 w (r :: Y) := by
  have h := H.tail.tail.tail
  exact h.rot2.tail
set_option maxHeartbeats 4000000 in
theorem qparse_any (hP : RPrints) (A : Option Addr) (c : Nat) (l : List UInt8) (n : Int) (w : World) (hr : Rd w A l) (hc : l.length ≤ c) (hm : c ≤ maxLen) (b0 : -9223372036854775808 ≤ n) (b1 : n ≤ 9223372036854775807) :
    Calls Tryd.prog 18 #[.slice A l.length c, .int .i64 n] w (RetPR l n w) := by
  have H := Hp.nil w
  have hi := q_iff l n
  obtain ⟨k1, k2, k3, k4⟩ := qall_ok l
  unfold qM at hi
  obtain ⟨⟨⟨a, b⟩, t, rs, y⟩, hx⟩ : ∃ x, qAll l = x := ⟨_, rfl⟩
  rw [hx] at hi k1 k2
  have hi : paOk l n = (!b && (mayM { t with yn := y.length } rs y n && decide (prL { t with yn := y.length } rs y = l))) := hi
  have HX := Lib.hid hx
  have HOK : Hid (∀ x ∈ rs, RpOk x) := Lib.hid k2
  have HNT : Hid (∀ Ar cr By dy, MgN (cpM t rs y Ar cr By dy)) := Lib.hid (fun _ _ _ _ => k1)
  have hmc : ∀ Ar cr By dy, mayM (cpM t rs y Ar cr By dy) rs y n = mayM { t with yn := y.length } rs y n := fun Ar cr By dy => mayM_congr (m := cpM t rs y Ar cr By dy) (m' := { t with yn := y.length }) rfl rfl rs y n
  have hpc : ∀ Ar cr By dy, prL (cpM t rs y Ar cr By dy) rs y = prL { t with yn := y.length } rs y := fun Ar cr By dy => prL_congr (m := cpM t rs y Ar cr By dy) (m' := { t with yn := y.length }) rfl rs y
  clear hx k1 k2 k3 k4
  cases b
  rotate_left
  · have HNO : Hid (paOk l n = false) := Lib.hid (by rw [hi]; rfl)
    clear hi hmc hpc
    have HPL := True.intro
    have P := True.intro
    go_enter Tryd.func18, Tryd.ntmps18; go_wp2_with (first | ((with_reducible refine Hp.box H ?_); refine ⟨rfl, [_, _, _], rfl, ?_⟩; (clear H; intro g w1 H); (replace H : Hp w w1 (rrI g A l.length c ⟨0, false⟩ :: _) := H); go_frame) | ((with_reducible refine Hp.allo (ty := 34) (L := []) H ?_); refine ⟨rfl, ?_⟩; refine ⟨_, z_look rfl, ?_⟩; (clear H; intro gr w1 H); go_frame) | ((with_reducible refine Hp.allo (ty := 34) H ?_); refine ⟨rfl, ?_⟩; refine ⟨_, z_look rfl, ?_⟩; (clear H; intro gm w1 H); go_frame) | ((with_reducible refine Hp.ld H ?_); refine ⟨rfl, ?_⟩; refine ⟨c_look rfl, ?_⟩; refine ⟨_, _, rfl, ?_⟩; (first | refine ⟨_, _, _, .z, ?_⟩ | refine ⟨_, _, _, .s .z, ?_⟩ | refine ⟨_, _, _, .s (.s .z), ?_⟩ | refine ⟨_, _, _, .s (.s (.s .z)), ?_⟩ | refine ⟨_, _, _, .s (.s (.s (.s .z))), ?_⟩); refine ⟨_, rfl, ?_⟩; go_frame) | ((with_reducible refine Hp.sta H ?_); refine ⟨rfl, ?_⟩; refine ⟨_, s_look rfl, ?_⟩; refine ⟨_, rfl, _, rfl, rfl, ?_⟩; (first | refine ⟨_, _, _, .z, ?_⟩ | refine ⟨_, _, _, .s .z, ?_⟩ | refine ⟨_, _, _, .s (.s .z), ?_⟩ | refine ⟨_, _, _, .s (.s (.s .z)), ?_⟩ | refine ⟨_, _, _, .s (.s (.s (.s .z))), ?_⟩); refine ⟨rfl, rfl, ?_⟩; (clear H; intro w1 H; simp only [List.set] at H); go_frame) | ((with_reducible refine Hp.bdl (t := 88) (parts := [_]) H ?_); refine ⟨rfl, _, b_rdq _ _ _, ?_⟩; go_frame) | ((with_reducible refine Hp.bdl (t := 34) (parts := []) H ?_); refine ⟨rfl, mgC mg0, b_ms0, ?_⟩; go_frame) | ((with_reducible refine (qmsg_v HX.out A c g w _ _ hr hc hm H).mono ?_); rintro _ w1 ⟨Ar, cr, By, dy, Yi, hyi, rfl, HQ⟩; replace H := HQ; clear HQ; simp only [List.cons_append, List.nil_append] at H))
    exact bodyPost_ret (v := .tuple #[.agg (mgC mg0).toArray, .int .i64 200]) (results_ct rfl rfl (H.var (by kernel_rfl) (t := 34) (cs := mgC mg0) (.s (.s (.s .z))) s_Msg) rfl) rfl (retPR_no HNO.out H.below)
  obtain ⟨P0, hP0⟩ : ∃ P, prL { t with yn := y.length } rs y = P := ⟨_, rfl⟩
  rw [hP0] at hi hpc
  cases hmy : mayM { t with yn := y.length } rs y n
  · rw [hmy] at hi hmc
    have HNO : Hid (paOk l n = false) := Lib.hid (by rw [hi]; rfl)
    have HPL : Hid (∀ Ar cr By dy, printL (cpM t rs y Ar cr By dy) rs y n = []) := Lib.hid (fun a b c d => by unfold printL; rw [hmc]; rfl)
    have HPE : Hid (∀ Ar cr By dy, printE (cpM t rs y Ar cr By dy) rs y n = 2) := Lib.hid (fun a b c d => by unfold printE; rw [hmc]; rfl)
    clear hi hmc hpc hmy hP0
    have P := True.intro
    go_enter Tryd.func18, Tryd.ntmps18; go_wp2_with (first | ((with_reducible refine Hp.box H ?_); refine ⟨rfl, [_, _, _], rfl, ?_⟩; (clear H; intro g w1 H); (replace H : Hp w w1 (rrI g A l.length c ⟨0, false⟩ :: _) := H); go_frame) | ((with_reducible refine Hp.allo (ty := 34) (L := []) H ?_); refine ⟨rfl, ?_⟩; refine ⟨_, z_look rfl, ?_⟩; (clear H; intro gr w1 H); go_frame) | ((with_reducible refine Hp.allo (ty := 34) H ?_); refine ⟨rfl, ?_⟩; refine ⟨_, z_look rfl, ?_⟩; (clear H; intro gm w1 H); go_frame) | ((with_reducible refine Hp.ld H ?_); refine ⟨rfl, ?_⟩; refine ⟨c_look rfl, ?_⟩; refine ⟨_, _, rfl, ?_⟩; (first | refine ⟨_, _, _, .z, ?_⟩ | refine ⟨_, _, _, .s .z, ?_⟩ | refine ⟨_, _, _, .s (.s .z), ?_⟩ | refine ⟨_, _, _, .s (.s (.s .z)), ?_⟩ | refine ⟨_, _, _, .s (.s (.s (.s .z))), ?_⟩); refine ⟨_, rfl, ?_⟩; go_frame) | ((with_reducible refine Hp.lda H ?_); refine ⟨rfl, by kernel_rfl, ?_⟩; refine ⟨_, s_look rfl, ?_⟩; refine ⟨_, rfl, ?_⟩; (first | refine ⟨_, _, _, .z, ?_⟩ | refine ⟨_, _, _, .s .z, ?_⟩ | refine ⟨_, _, _, .s (.s .z), ?_⟩ | refine ⟨_, _, _, .s (.s (.s .z)), ?_⟩ | refine ⟨_, _, _, .s (.s (.s (.s .z))), ?_⟩); refine ⟨rfl, ?_⟩; go_frame) | ((with_reducible refine Hp.sta H ?_); refine ⟨rfl, ?_⟩; refine ⟨_, s_look rfl, ?_⟩; refine ⟨_, rfl, _, rfl, rfl, ?_⟩; (first | refine ⟨_, _, _, .z, ?_⟩ | refine ⟨_, _, _, .s .z, ?_⟩ | refine ⟨_, _, _, .s (.s .z), ?_⟩ | refine ⟨_, _, _, .s (.s (.s .z)), ?_⟩ | refine ⟨_, _, _, .s (.s (.s (.s .z))), ?_⟩); refine ⟨rfl, rfl, ?_⟩; (clear H; intro w1 H; simp only [List.set] at H); go_frame) | ((with_reducible refine Hp.bdl (t := 88) (parts := [_]) H ?_); refine ⟨rfl, _, b_rdq _ _ _, ?_⟩; go_frame) | ((with_reducible refine Hp.bdl (t := 34) (parts := []) H ?_); refine ⟨rfl, mgC mg0, b_ms0, ?_⟩; go_frame) | ((with_reducible refine (qmsg_v HX.out A c g w _ _ hr hc hm H).mono ?_); rintro _ w1 ⟨Ar, cr, By, dy, Yi, hyi, rfl, HQ⟩; replace H := HQ; clear HQ; simp only [List.cons_append, List.nil_append] at H) | ((with_reducible refine (qprint_v hP (HPL.out Ar cr By dy) (HPE.out Ar cr By dy) (HNT.out Ar cr By dy) (ps_R2 HOK.out hyi H) b0 b1).mono ?_); rintro _ w1 ⟨Ap, cp, rfl, hown, hb⟩; replace H := H.callOwn hb hown; clear hb hown))
    exact bodyPost_ret (v := .tuple #[.agg (mgC mg0).toArray, .int .i64 200]) (results_ct rfl rfl (H.var (by kernel_rfl) (t := 34) (cs := mgC mg0) (.s (.s (.s (.s .z)))) s_Msg) rfl) rfl (retPR_no HNO.out H.below)
  · rw [hmy] at hi hmc
    have HPL : Hid (∀ Ar cr By dy, printL (cpM t rs y Ar cr By dy) rs y n = P0) := Lib.hid (fun a b c d => by unfold printL; rw [hmc, if_pos rfl, hpc])
    have HPE : Hid (∀ Ar cr By dy, printE (cpM t rs y Ar cr By dy) rs y n = 0) := Lib.hid (fun a b c d => by unfold printE; rw [hmc]; rfl)
    clear hmc hpc hmy hP0
    by_cases hPl : P0 = l
    · have HYE : Hid (paOk l n = true) := Lib.hid (by rw [hi, decide_eq_true hPl]; rfl)
      have HPL2 : Hid (∀ Ar cr By dy, printL (cpM t rs y Ar cr By dy) rs y n = l) := Lib.hid (fun a b c d => by rw [HPL.out, hPl])
      clear hi HPL hPl
      go_enter Tryd.func18, Tryd.ntmps18; go_wp2_with (first | ((with_reducible refine Hp.box H ?_); refine ⟨rfl, [_, _, _], rfl, ?_⟩; (clear H; intro g w1 H); (replace H : Hp w w1 (rrI g A l.length c ⟨0, false⟩ :: _) := H); go_frame) | ((with_reducible refine Hp.allo (ty := 34) (L := []) H ?_); refine ⟨rfl, ?_⟩; refine ⟨_, z_look rfl, ?_⟩; (clear H; intro gr w1 H); go_frame) | ((with_reducible refine Hp.allo (ty := 34) H ?_); refine ⟨rfl, ?_⟩; refine ⟨_, z_look rfl, ?_⟩; (clear H; intro gm w1 H); go_frame) | ((with_reducible refine Hp.ld H ?_); refine ⟨rfl, ?_⟩; refine ⟨c_look rfl, ?_⟩; refine ⟨_, _, rfl, ?_⟩; (first | refine ⟨_, _, _, .z, ?_⟩ | refine ⟨_, _, _, .s .z, ?_⟩ | refine ⟨_, _, _, .s (.s .z), ?_⟩ | refine ⟨_, _, _, .s (.s (.s .z)), ?_⟩ | refine ⟨_, _, _, .s (.s (.s (.s .z))), ?_⟩); refine ⟨_, rfl, ?_⟩; go_frame) | ((with_reducible refine Hp.lda H ?_); refine ⟨rfl, by kernel_rfl, ?_⟩; refine ⟨_, s_look rfl, ?_⟩; refine ⟨_, rfl, ?_⟩; (first | refine ⟨_, _, _, .z, ?_⟩ | refine ⟨_, _, _, .s .z, ?_⟩ | refine ⟨_, _, _, .s (.s .z), ?_⟩ | refine ⟨_, _, _, .s (.s (.s .z)), ?_⟩ | refine ⟨_, _, _, .s (.s (.s (.s .z))), ?_⟩); refine ⟨rfl, ?_⟩; go_frame) | ((with_reducible refine Hp.sta H ?_); refine ⟨rfl, ?_⟩; refine ⟨_, s_look rfl, ?_⟩; refine ⟨_, rfl, _, rfl, rfl, ?_⟩; (first | refine ⟨_, _, _, .z, ?_⟩ | refine ⟨_, _, _, .s .z, ?_⟩ | refine ⟨_, _, _, .s (.s .z), ?_⟩ | refine ⟨_, _, _, .s (.s (.s .z)), ?_⟩ | refine ⟨_, _, _, .s (.s (.s (.s .z))), ?_⟩); refine ⟨rfl, rfl, ?_⟩; (clear H; intro w1 H; simp only [List.set] at H); go_frame) | ((with_reducible refine Hp.bdl (t := 88) (parts := [_]) H ?_); refine ⟨rfl, _, b_rdq _ _ _, ?_⟩; go_frame) | ((with_reducible refine (qmsg_v HX.out A c g w _ _ hr hc hm H).mono ?_); rintro _ w1 ⟨Ar, cr, By, dy, Yi, hyi, rfl, HQ⟩; replace H := HQ; clear HQ; simp only [List.cons_append, List.nil_append] at H) | ((with_reducible refine (qprint_v hP (HPL2.out Ar cr By dy) (HPE.out Ar cr By dy) (HNT.out Ar cr By dy) (ps_R2 HOK.out hyi H) b0 b1).mono ?_); rintro _ w1 ⟨Ap, cp, rfl, hown, hb⟩; replace H := H.callOwn hb hown; clear hb hown) | ((with_reducible refine Hp.cvS H ?_); refine ⟨rfl, _, _, _, rfl, l, (H.o 0 rfl).rd, rfl, ?_⟩; go_frame) | ((with_reducible refine Hp.cvS H ?_); refine ⟨rfl, _, _, _, rfl, l, hr.below H.below, rfl, ?_⟩; go_frame))
      exact bodyPost_ret (v := .tuple #[.agg (mgC (cpM t rs y Ar cr By dy)).toArray, .int .i64 0]) (results_ct rfl rfl (H.var (by kernel_rfl) (t := 34) (cs := mgC (cpM t rs y Ar cr By dy)) (.s (.s (.s (.s .z)))) s_Msg) rfl) rfl (retPR_yes HYE.out HX.out hyi H.finP)
    · have HNO : Hid (paOk l n = false) := Lib.hid (by rw [hi, decide_eq_false hPl]; rfl)
      have hpl : (P0 == l) = false := beq_eq_false_iff_ne.mpr hPl
      clear hi hPl
      go_enter Tryd.func18, Tryd.ntmps18; go_wp2_with (first | ((with_reducible refine Hp.box H ?_); refine ⟨rfl, [_, _, _], rfl, ?_⟩; (clear H; intro g w1 H); (replace H : Hp w w1 (rrI g A l.length c ⟨0, false⟩ :: _) := H); go_frame) | ((with_reducible refine Hp.allo (ty := 34) (L := []) H ?_); refine ⟨rfl, ?_⟩; refine ⟨_, z_look rfl, ?_⟩; (clear H; intro gr w1 H); go_frame) | ((with_reducible refine Hp.allo (ty := 34) H ?_); refine ⟨rfl, ?_⟩; refine ⟨_, z_look rfl, ?_⟩; (clear H; intro gm w1 H); go_frame) | ((with_reducible refine Hp.ld H ?_); refine ⟨rfl, ?_⟩; refine ⟨c_look rfl, ?_⟩; refine ⟨_, _, rfl, ?_⟩; (first | refine ⟨_, _, _, .z, ?_⟩ | refine ⟨_, _, _, .s .z, ?_⟩ | refine ⟨_, _, _, .s (.s .z), ?_⟩ | refine ⟨_, _, _, .s (.s (.s .z)), ?_⟩ | refine ⟨_, _, _, .s (.s (.s (.s .z))), ?_⟩); refine ⟨_, rfl, ?_⟩; go_frame) | ((with_reducible refine Hp.lda H ?_); refine ⟨rfl, by kernel_rfl, ?_⟩; refine ⟨_, s_look rfl, ?_⟩; refine ⟨_, rfl, ?_⟩; (first | refine ⟨_, _, _, .z, ?_⟩ | refine ⟨_, _, _, .s .z, ?_⟩ | refine ⟨_, _, _, .s (.s .z), ?_⟩ | refine ⟨_, _, _, .s (.s (.s .z)), ?_⟩ | refine ⟨_, _, _, .s (.s (.s (.s .z))), ?_⟩); refine ⟨rfl, ?_⟩; go_frame) | ((with_reducible refine Hp.sta H ?_); refine ⟨rfl, ?_⟩; refine ⟨_, s_look rfl, ?_⟩; refine ⟨_, rfl, _, rfl, rfl, ?_⟩; (first | refine ⟨_, _, _, .z, ?_⟩ | refine ⟨_, _, _, .s .z, ?_⟩ | refine ⟨_, _, _, .s (.s .z), ?_⟩ | refine ⟨_, _, _, .s (.s (.s .z)), ?_⟩ | refine ⟨_, _, _, .s (.s (.s (.s .z))), ?_⟩); refine ⟨rfl, rfl, ?_⟩; (clear H; intro w1 H; simp only [List.set] at H); go_frame) | ((with_reducible refine Hp.bdl (t := 88) (parts := [_]) H ?_); refine ⟨rfl, _, b_rdq _ _ _, ?_⟩; go_frame) | ((with_reducible refine Hp.bdl (t := 34) (parts := []) H ?_); refine ⟨rfl, mgC mg0, b_ms0, ?_⟩; go_frame) | ((with_reducible refine (qmsg_v HX.out A c g w _ _ hr hc hm H).mono ?_); rintro _ w1 ⟨Ar, cr, By, dy, Yi, hyi, rfl, HQ⟩; replace H := HQ; clear HQ; simp only [List.cons_append, List.nil_append] at H) | ((with_reducible refine (qprint_v hP (HPL.out Ar cr By dy) (HPE.out Ar cr By dy) (HNT.out Ar cr By dy) (ps_R2 HOK.out hyi H) b0 b1).mono ?_); rintro _ w1 ⟨Ap, cp, rfl, hown, hb⟩; replace H := H.callOwn hb hown; clear hb hown) | ((with_reducible refine Hp.cvS H ?_); refine ⟨rfl, _, _, _, rfl, P0, (H.o 0 rfl).rd, rfl, ?_⟩; go_frame) | ((with_reducible refine Hp.cvS H ?_); refine ⟨rfl, _, _, _, rfl, l, hr.below H.below, rfl, ?_⟩; go_frame))
      exact bodyPost_ret (v := .tuple #[.agg (mgC mg0).toArray, .int .i64 200]) (results_ct rfl rfl (H.var (by kernel_rfl) (t := 34) (cs := mgC mg0) (.s (.s (.s (.s .z)))) s_Msg) rfl) rfl (retPR_no HNO.out H.below)
end Go.Proofs.YtajgikjmoeemnaaDoor
