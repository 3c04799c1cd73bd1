/-
  THE WALK OF sextonref20's reading: message, the promise. (Printed by wip/bin/genrdc.py.)
-/
import Derived.Test.YtajgikjmoeemnaaDoorRdE
import Derived.Test.YtajgikjmoeemnaaDoorPaD
namespace Go.Proofs.YtajgikjmoeemnaaDoor
set_option maxRecDepth 100000
open Go.RowKit
set_option linter.unusedVariables false
set_option linter.unusedSimpArgs false
theorem Hp.finR {w0 w : World} {a b c r : Item} {L : List Item} (H : Hp w0 w (a :: b :: c :: r :: L)) : Hp w0 w ((a :: r :: L) ++ []) := by
  rw [List.append_nil]
  exact H.sub (((List.sublist_cons_self c (r :: L)).trans (List.sublist_cons_self b (c :: r :: L))).cons_cons a)
theorem retQM_of {w0 w' : World} {g : Nat} {A : Option Addr} {c : Nat} {l : List UInt8} {s : Qs} {t : Mg} {rs : List Rp} {Ar : Option Addr} {cr : Nat} {L : List Item} (h : qAll l = ⟨s, t, rs, []⟩) (H : Hp w0 w' ((rrI g A l.length c s :: rwI Ar cr rs :: L) ++ [])) :
    RetQM w0 g A c l (qAll l) L (.returned (.agg (mgC (cpM t rs [] Ar cr none 0)).toArray)) w' := by
  rw [h]
  exact ⟨Ar, cr, none, 0, [], .inl ⟨rfl, rfl, rfl, rfl⟩, rfl, H⟩
/-- the loop's relation -/
def QLRel (l : List UInt8) (K : Nat) (s0 : Qs) (w0 : World) (g gm gr : Nat) (A : Option Addr) (c : Nat) (t : Mg) (L : List Item) (v : Value) (wr : World) : Prop :=
  ∃ (i k : Nat) (s : Qs) (rs : List Rp) (Ar : Option Addr) (cr : Nat), i + k = K ∧ v = .int .i64 i ∧ rs.length = i ∧ qrepsP l K s0 = qrepsP l k s ∧ qrepsV l K s0 = rs ++ qrepsV l k s ∧ s.a ≤ l.length ∧
    Hp w0 wr (rrI g A l.length c s :: mgI gm t rs [] Ar cr none 0 :: .blk gr 34 (mgC mg0) :: rwI Ar cr rs :: L)
set_option maxRecDepth 100000 in
set_option maxHeartbeats 4000000 in
theorem qmsg_4 (A : Option Addr) (c : Nat) (l : List UInt8) (g : Nat) (w0 w : World) (L : List Item) (hr : Rd w0 A l) (hc : l.length ≤ c) (hm : c ≤ maxLen) (H : Hp w0 w (rrI g A l.length c ⟨0, false⟩ :: L)) (hK : leN (rnV l ⟨0, false⟩ 1) = 4) :
    Calls Tryd.prog 46 #[.pointer (some ⟨g, 0, none⟩)] w (RetQM w0 g A c l (qAll l) L) := by
  have e : qAll l = ⟨qrepsP l (leN (rnV l (rnP l (rnP l (rnP l (rnP l (rnP l (rnP l (rnP l ⟨0, false⟩ 1) 1) 1) 6) 1) 6) 6) 1)) (rnP l (rnP l (rnP l (rnP l (rnP l (rnP l (rnP l (rnP l ⟨0, false⟩ 1) 1) 1) 6) 1) 6) 6) 1), { mg0 with k := 4, fr := whoQ (leN (rnV l (rnP l ⟨0, false⟩ 1) 1) : Nat), to := whoQ (leN (rnV l (rnP l (rnP l ⟨0, false⟩ 1) 1) 1) : Nat), br := (leN (rnV l (rnP l (rnP l (rnP l ⟨0, false⟩ 1) 1) 1) 6) : Nat), bp := (leN (rnV l (rnP l (rnP l (rnP l (rnP l ⟨0, false⟩ 1) 1) 1) 6) 1) : Nat), ix := (leN (rnV l (rnP l (rnP l (rnP l (rnP l (rnP l ⟨0, false⟩ 1) 1) 1) 6) 1) 6) : Nat), cm := (leN (rnV l (rnP l (rnP l (rnP l (rnP l (rnP l (rnP l ⟨0, false⟩ 1) 1) 1) 6) 1) 6) 6) : Nat) }, qrepsV l (leN (rnV l (rnP l (rnP l (rnP l (rnP l (rnP l (rnP l (rnP l ⟨0, false⟩ 1) 1) 1) 6) 1) 6) 6) 1)) (rnP l (rnP l (rnP l (rnP l (rnP l (rnP l (rnP l (rnP l ⟨0, false⟩ 1) 1) 1) 6) 1) 6) 6) 1), []⟩ := by
    have hl : qlets (qheadP l).t.k = [98, 122, 99, 108] := by
      rw [show (qheadP l).t.k = 4 from by show ((leN (rnV l ⟨0, false⟩ 1) : Nat) : Int) = 4; rw [hK]; rfl]
      decide +kernel
    unfold qAll
    rw [hl]
    refine Eq.trans (b := ⟨qrepsP l (leN (rnV l (rnP l (rnP l (rnP l (rnP l (rnP l (rnP l (rnP l ⟨0, false⟩ 1) 1) 1) 6) 1) 6) 6) 1)) (rnP l (rnP l (rnP l (rnP l (rnP l (rnP l (rnP l (rnP l ⟨0, false⟩ 1) 1) 1) 6) 1) 6) 6) 1), { mg0 with k := ((leN (rnV l ⟨0, false⟩ 1) : Nat) : Int), fr := whoQ (leN (rnV l (rnP l ⟨0, false⟩ 1) 1) : Nat), to := whoQ (leN (rnV l (rnP l (rnP l ⟨0, false⟩ 1) 1) 1) : Nat), br := (leN (rnV l (rnP l (rnP l (rnP l ⟨0, false⟩ 1) 1) 1) 6) : Nat), bp := (leN (rnV l (rnP l (rnP l (rnP l (rnP l ⟨0, false⟩ 1) 1) 1) 6) 1) : Nat), ix := (leN (rnV l (rnP l (rnP l (rnP l (rnP l (rnP l ⟨0, false⟩ 1) 1) 1) 6) 1) 6) : Nat), cm := (leN (rnV l (rnP l (rnP l (rnP l (rnP l (rnP l (rnP l ⟨0, false⟩ 1) 1) 1) 6) 1) 6) 6) : Nat) }, qrepsV l (leN (rnV l (rnP l (rnP l (rnP l (rnP l (rnP l (rnP l (rnP l ⟨0, false⟩ 1) 1) 1) 6) 1) 6) 6) 1)) (rnP l (rnP l (rnP l (rnP l (rnP l (rnP l (rnP l (rnP l ⟨0, false⟩ 1) 1) 1) 6) 1) 6) 6) 1), []⟩) (by rfl) ?_
    rw [hK]
    rfl
  have hq0 : (⟨0, false⟩ : Qs).a ≤ l.length := Nat.zero_le _
  have hb0 := leN_1 l ⟨0, false⟩
  have HN1 := Lib.hid hK
  clear hK hb0
  have hq1 : (rnP l ⟨0, false⟩ 1).a ≤ l.length := rnP_le hq0
  obtain ⟨s1, h⟩ : ∃ x, rnP l ⟨0, false⟩ 1 = x := ⟨_, rfl⟩
  rw [h] at e hq1
  have HS1 := Lib.hid h
  clear h
  obtain ⟨F, h⟩ : ∃ x, whoQ (leN (rnV l s1 1) : Nat) = x := ⟨_, rfl⟩
  rw [h] at e
  have HF := Lib.hid h
  clear h
  have hq2 : (rnP l s1 1).a ≤ l.length := rnP_le hq1
  obtain ⟨s2, h⟩ : ∃ x, rnP l s1 1 = x := ⟨_, rfl⟩
  rw [h] at e hq2
  have HS2 := Lib.hid h
  clear h
  obtain ⟨T, h⟩ : ∃ x, whoQ (leN (rnV l s2 1) : Nat) = x := ⟨_, rfl⟩
  rw [h] at e
  have HT := Lib.hid h
  clear h
  have hq3 : (rnP l s2 1).a ≤ l.length := rnP_le hq2
  obtain ⟨s3, h⟩ : ∃ x, rnP l s2 1 = x := ⟨_, rfl⟩
  rw [h] at e hq3
  have HS3 := Lib.hid h
  clear h
  obtain ⟨R4, h⟩ : ∃ x, leN (rnV l s3 6) = x := ⟨_, rfl⟩
  rw [h] at e
  have HR4 := Lib.hid h
  clear h
  obtain ⟨P4, h⟩ : ∃ x, leN (rnV l (rnP l s3 6) 1) = x := ⟨_, rfl⟩
  rw [h] at e
  have HP4 := Lib.hid h
  clear h
  have hq4 : (rnP l (rnP l s3 6) 1).a ≤ l.length := rnP_le (rnP_le hq3)
  obtain ⟨s4, h⟩ : ∃ x, rnP l (rnP l s3 6) 1 = x := ⟨_, rfl⟩
  rw [h] at e hq4
  have HS4 := Lib.hid h
  clear h
  obtain ⟨N5, h⟩ : ∃ x, leN (rnV l s4 6) = x := ⟨_, rfl⟩
  rw [h] at e
  have HN5 := Lib.hid h
  clear h
  have hq5 : (rnP l s4 6).a ≤ l.length := rnP_le hq4
  obtain ⟨s5, h⟩ : ∃ x, rnP l s4 6 = x := ⟨_, rfl⟩
  rw [h] at e hq5
  have HS5 := Lib.hid h
  clear h
  obtain ⟨N6, h⟩ : ∃ x, leN (rnV l s5 6) = x := ⟨_, rfl⟩
  rw [h] at e
  have HN6 := Lib.hid h
  clear h
  have hq6 : (rnP l s5 6).a ≤ l.length := rnP_le hq5
  obtain ⟨s6, h⟩ : ∃ x, rnP l s5 6 = x := ⟨_, rfl⟩
  rw [h] at e hq6
  have HS6 := Lib.hid h
  clear h
  have hb7 := leN_1 l s6
  obtain ⟨N7, h⟩ : ∃ x, leN (rnV l s6 1) = x := ⟨_, rfl⟩
  rw [h] at e hb7
  have HN7 := Lib.hid h
  clear h
  have hw7 := u8_nat hb7
  clear hb7
  have hq7 : (rnP l s6 1).a ≤ l.length := rnP_le hq6
  obtain ⟨s7, h⟩ : ∃ x, rnP l s6 1 = x := ⟨_, rfl⟩
  rw [h] at e hq7
  have HS7 := Lib.hid h
  clear h
  obtain ⟨tt, htt⟩ : ∃ t : Mg, { mg0 with k := 4, fr := F, to := T, br := (R4 : Int), bp := (P4 : Int), ix := (N5 : Int), cm := (N6 : Int) } = t := ⟨_, rfl⟩
  rw [htt] at e
  have HTT := Lib.hid htt
  clear htt
  have hmany : N7 < 256 := by rw [← HN7.out]; exact leN_1 l s6
  go_enter Tryd.func46, Tryd.ntmps46; go_wp2_with (first | ((with_reducible refine Hp.allo (ty := 34) (L := rrI g A l.length c ⟨0, false⟩ :: L) H ?_); refine ⟨rfl, ?_⟩; refine ⟨_, z_look rfl, ?_⟩; (clear H; intro gr w1 H); (replace H := H.rot2); go_frame) | ((with_reducible refine Hp.allo (ty := 34) H ?_); refine ⟨rfl, ?_⟩; refine ⟨_, z_look rfl, ?_⟩; (clear H; intro gm w1 H); (replace H := H.rot2); go_frame) | ((with_reducible refine Hp.ld H ?_); refine ⟨rfl, ?_⟩; refine ⟨c_look rfl, ?_⟩; refine ⟨_, _, rfl, ?_⟩; (first | refine ⟨_, _, _, .z, ?_⟩ | refine ⟨_, _, _, .s .z, ?_⟩ | refine ⟨_, _, _, .s (.s .z), ?_⟩ | refine ⟨_, _, _, .s (.s (.s .z)), ?_⟩); refine ⟨_, rfl, ?_⟩; go_frame) | ((with_reducible refine Hp.stv H ?_); refine ⟨rfl, ?_⟩; refine ⟨c_look rfl, ?_⟩; (first | refine ⟨.bool _, rfl, ?_⟩ | refine ⟨.int _ _, rfl, ?_⟩ | refine ⟨.string _, rfl, ?_⟩ | refine ⟨.slice _ _ _, rfl, ?_⟩ | refine ⟨.pointer _, rfl, ?_⟩); refine ⟨rfl, _, _, rfl, ?_⟩; (first | refine ⟨_, _, _, .z, ?_⟩ | refine ⟨_, _, _, .s .z, ?_⟩ | refine ⟨_, _, _, .s (.s .z), ?_⟩ | refine ⟨_, _, _, .s (.s (.s .z)), ?_⟩); refine ⟨⟨_, rfl⟩, ?_⟩; (clear H; intro w1 H; simp only [List.set] at H); go_frame) | ((with_reducible refine (qnum_v HS1.out HN1.out A c g w0 _ _ hr hc hm hq0 one_le6 H one_int).mono ?_); (rintro _ w1 ⟨rfl, HQ⟩; replace H := HQ; clear HQ)) | ((with_reducible refine (qwho_v HS2.out HF.out A c g w0 _ _ hr hc hm hq1 H).mono ?_); (rintro _ w1 ⟨rfl, HQ⟩; replace H := HQ; clear HQ)) | ((with_reducible refine (qwho_v HS3.out HT.out A c g w0 _ _ hr hc hm hq2 H).mono ?_); (rintro _ w1 ⟨rfl, HQ⟩; replace H := HQ; clear HQ)) | ((with_reducible refine (qbal_v HS4.out HR4.out HP4.out A c g w0 _ _ hr hc hm hq3 H).mono ?_); (rintro _ w1 ⟨rfl, HQ⟩; replace H := HQ; clear HQ)) | ((with_reducible refine Hp.str H ?_); refine ⟨rfl, ?_⟩; refine ⟨_, s_look rfl, ?_⟩; refine ⟨_, _, rfl, baC R4 P4, rfl, rfl, ?_⟩; (first | refine ⟨_, _, _, .z, ?_⟩ | refine ⟨_, _, _, .s .z, ?_⟩ | refine ⟨_, _, _, .s (.s .z), ?_⟩ | refine ⟨_, _, _, .s (.s (.s .z)), ?_⟩); refine ⟨rfl, mgC { mg0 with k := 4, fr := F, to := T, br := (R4 : Int), bp := (P4 : Int) }, rfl, _, rfl, Nat.le_of_ble_eq_true rfl, ?_⟩; (clear H; intro w1 H; simp only [List.set] at H); go_frame) | ((with_reducible refine (qnum_v HS5.out HN5.out A c g w0 _ _ hr hc hm hq4 six_le6 H six_int).mono ?_); (rintro _ w1 ⟨rfl, HQ⟩; replace H := HQ; clear HQ)) | ((with_reducible refine (qnum_v HS6.out HN6.out A c g w0 _ _ hr hc hm hq5 six_le6 H six_int).mono ?_); (rintro _ w1 ⟨rfl, HQ⟩; replace H := HQ; clear HQ)) | ((with_reducible refine (qnum_v HS7.out HN7.out A c g w0 _ _ hr hc hm hq6 one_le6 H one_int).mono ?_); (rintro _ w1 ⟨rfl, HQ⟩; replace H := HQ; clear HQ)))
  have hcp : cpM tt [] [] none 0 none 0 = tt := by rw [← HTT.out]; rfl
  have hat : QLRel l N7 s7 w0 g gm gr A c tt L (.int .i64 (0 : Nat)) w1 := by
    refine ⟨0, N7, s7, [], none, 0, Nat.zero_add _, rfl, rfl, rfl, rfl, hq7, ?_⟩
    show Hp w0 w1 (rrI g A l.length c s7 :: .blk gm 34 (mgC (cpM tt [] [] none 0 none 0)) :: .blk gr 34 (mgC mg0) :: rwI none 0 [] :: L)
    rw [hcp, ← HTT.out]
    exact H.putRw
  obtain ⟨R, hR0, hat⟩ := R_of hat
  have HE := Lib.hid e
  clear e H hcp HN1 HS1 HF HS2 HT HS3 HR4 HP4 HS4 HN5 HS5 HN6 HS6 HN7 HS7 hw7 HTT hq0 hq1 hq2 hq3 hq4 hq5 hq6 hq7
  go_loopw [5, 6] (fun v _ wr => R v wr) (fun v _ _ => N7 - (intOf v).toNat)
  case atStart => exact hat
  case round =>
    clear hat
    rw [hR0] at hrel
    obtain ⟨i, k, s, rs, Ar, cr, hik, rfl, hlen, hqP, hqV, hqs, H⟩ := hrel
    have HQP := Lib.hid hqP
    have HQV := Lib.hid hqV
    clear hqP hqV
    obtain rfl | ⟨j, rfl⟩ : k = 0 ∨ ∃ j, k = j + 1 := by cases k with | zero => exact .inl rfl | succ j => exact .inr ⟨j, rfl⟩
    · have hfin : qAll l = ⟨s, tt, rs, []⟩ := by rw [HE.out, HQP.out, HQV.out]; simp [qrepsP, qrepsV]
      have HFIN := Lib.hid hfin
      have d0 : decide ((i : Int) < (N7 : Int)) = false := decide_eq_false (by omega)
      have d1 : decide (i < N7) = false := decide_eq_false (by omega)
      clear hfin HQP HQV HE hR0 hik hlen
      go_wp2_with (first | ((with_reducible refine Hp.lda H ?_); refine ⟨rfl, by kernel_rfl, ?_⟩; refine ⟨_, s_look rfl, ?_⟩; refine ⟨_, rfl, ?_⟩; (first | refine ⟨_, _, _, .z, ?_⟩ | refine ⟨_, _, _, .s .z, ?_⟩ | refine ⟨_, _, _, .s (.s .z), ?_⟩ | refine ⟨_, _, _, .s (.s (.s .z)), ?_⟩); refine ⟨rfl, ?_⟩; go_frame) | ((with_reducible refine Hp.sta H ?_); refine ⟨rfl, ?_⟩; refine ⟨_, s_look rfl, ?_⟩; refine ⟨_, rfl, _, rfl, rfl, ?_⟩; (first | refine ⟨_, _, _, .z, ?_⟩ | refine ⟨_, _, _, .s .z, ?_⟩ | refine ⟨_, _, _, .s (.s .z), ?_⟩ | refine ⟨_, _, _, .s (.s (.s .z)), ?_⟩); refine ⟨rfl, rfl, ?_⟩; (clear H; intro w1 H; simp only [List.set] at H); go_frame))
      all_goals (exact bodyPost_ret (v := .agg (mgC (cpM tt rs [] Ar cr none 0)).toArray) (results_c rfl rfl (H.var (by kernel_rfl) (t := 34) (cs := mgC (cpM tt rs [] Ar cr none 0)) (.s (.s .z)) s_Msg)) rfl (retQM_of HFIN.out H.finR))
    · have d0 : decide ((i : Int) < (N7 : Int)) = true := decide_eq_true (by omega)
      have d1 : decide (i < N7) = true := decide_eq_true (by omega)
      cases hb : s.b
      rotate_left
      · have hP : qrepsP l (j + 1) s = s := by show (if s.b = false then _ else _) = _; rw [if_neg (by rw [hb]; decide)]
        have hV : qrepsV l (j + 1) s = [] := by show (if s.b = false then _ else _) = _; rw [if_neg (by rw [hb]; decide)]
        have hfin : qAll l = ⟨s, tt, rs, []⟩ := by rw [HE.out, HQP.out, HQV.out, hP, hV, List.append_nil]
        have HFIN := Lib.hid hfin
        clear hfin HQP HQV HE hR0 hik hlen hP hV
        go_wp2_with (first | ((with_reducible refine Hp.ld H ?_); refine ⟨rfl, ?_⟩; refine ⟨c_look rfl, ?_⟩; refine ⟨_, _, rfl, ?_⟩; (first | refine ⟨_, _, _, .z, ?_⟩ | refine ⟨_, _, _, .s .z, ?_⟩ | refine ⟨_, _, _, .s (.s .z), ?_⟩ | refine ⟨_, _, _, .s (.s (.s .z)), ?_⟩); refine ⟨_, rfl, ?_⟩; go_frame) | ((with_reducible refine Hp.lda H ?_); refine ⟨rfl, by kernel_rfl, ?_⟩; refine ⟨_, s_look rfl, ?_⟩; refine ⟨_, rfl, ?_⟩; (first | refine ⟨_, _, _, .z, ?_⟩ | refine ⟨_, _, _, .s .z, ?_⟩ | refine ⟨_, _, _, .s (.s .z), ?_⟩ | refine ⟨_, _, _, .s (.s (.s .z)), ?_⟩); refine ⟨rfl, ?_⟩; go_frame) | ((with_reducible refine Hp.sta H ?_); refine ⟨rfl, ?_⟩; refine ⟨_, s_look rfl, ?_⟩; refine ⟨_, rfl, _, rfl, rfl, ?_⟩; (first | refine ⟨_, _, _, .z, ?_⟩ | refine ⟨_, _, _, .s .z, ?_⟩ | refine ⟨_, _, _, .s (.s .z), ?_⟩ | refine ⟨_, _, _, .s (.s (.s .z)), ?_⟩); refine ⟨rfl, rfl, ?_⟩; (clear H; intro w1 H; simp only [List.set] at H); go_frame))
        all_goals (exact bodyPost_ret (v := .agg (mgC (cpM tt rs [] Ar cr none 0)).toArray) (results_c rfl rfl (H.var (by kernel_rfl) (t := 34) (cs := mgC (cpM tt rs [] Ar cr none 0)) (.s (.s .z)) s_Msg)) rfl (retQM_of HFIN.out H.finR))
      have hP : qrepsP l (j + 1) s = qrepsP l j (qrepP l s) := by show (if s.b = false then _ else _) = _; rw [if_pos hb]
      have hV : qrepsV l (j + 1) s = qrepV l s :: qrepsV l j (qrepP l s) := by show (if s.b = false then _ else _) = _; rw [if_pos hb]
      have hqP : qrepsP l N7 s7 = qrepsP l j (qrepP l s) := by rw [HQP.out, hP]
      have hqV : qrepsV l N7 s7 = (rs ++ [qrepV l s]) ++ qrepsV l j (qrepP l s) := by rw [HQV.out, hV, List.append_assoc]; rfl
      have HQP2 := Lib.hid hqP
      have HQV2 := Lib.hid hqV
      clear HQP HQV hP hV hqP hqV
      have hwi : IntKind.i64.wrap ((i : Int) + 1) = (i : Int) + 1 := IntWalk.i64_in _ (by omega)
      have hql : rs.length ≤ 1000000 := by omega
      obtain ⟨x1, h1⟩ : ∃ x, rnP l s 6 = x := ⟨_, rfl⟩
      obtain ⟨ix, h2⟩ : ∃ x, leN (rnV l s 6) = x := ⟨_, rfl⟩
      obtain ⟨x2, h3⟩ : ∃ x, rnP l x1 1 = x := ⟨_, rfl⟩
      obtain ⟨st, h4⟩ : ∃ x, leN (rnV l x1 1) = x := ⟨_, rfl⟩
      obtain ⟨x4, h5⟩ : ∃ x, rnP l (rnP l x2 6) 1 = x := ⟨_, rfl⟩
      obtain ⟨r, h6⟩ : ∃ x, leN (rnV l x2 6) = x := ⟨_, rfl⟩
      obtain ⟨p, h7⟩ : ∃ x, leN (rnV l (rnP l x2 6) 1) = x := ⟨_, rfl⟩
      obtain ⟨x5, h8⟩ : ∃ x, eqP l x4 = x := ⟨_, rfl⟩
      obtain ⟨en, h9⟩ : ∃ x, eqV l x4 = x := ⟨_, rfl⟩
      have hbs := leN_1 l x1
      rw [h4] at hbs
      have hx1 : x1.a ≤ l.length := by rw [← h1]; exact rnP_le hqs
      have hx2 : x2.a ≤ l.length := by rw [← h3]; exact rnP_le hx1
      have hx4 : x4.a ≤ l.length := by rw [← h5]; exact rnP_le (rnP_le hx2)
      have hx5 : x5.a ≤ l.length := by rw [← h8]; exact eqP_le hx4
      have hrP : qrepP l s = if st = 2 then x5 else if st = 3 then x4 else x2 := by
        unfold qrepP
        simp only [h1, h3, h4, h5, h8]
      have hrV : qrepV l s = ⟨(ix : Nat), (st : Nat), if st = 2 ∨ st = 3 then (r : Nat) else 0, if st = 2 ∨ st = 3 then (p : Nat) else 0, if st = 2 then en else en0⟩ := by
        unfold qrepV
        simp only [h1, h2, h3, h4, h5, h6, h7, h9]
      have HS1 := Lib.hid h1
      have HIX := Lib.hid h2
      have HS2 := Lib.hid h3
      have HST := Lib.hid h4
      have HS4 := Lib.hid h5
      have HR := Lib.hid h6
      have HP := Lib.hid h7
      have HS5 := Lib.hid h8
      have HEN := Lib.hid h9
      have HRP := Lib.hid hrP
      have HRV := Lib.hid hrV
      have hw : IntKind.u8.wrap (st : Int) = st := u8_nat hbs
      have HIK := Lib.hid hik
      have HLN := Lib.hid hlen
      clear h1 h2 h3 h4 h5 h6 h7 h8 h9 hrP hrV hbs hik hlen HE
      by_cases h2 : st = 2
      · subst h2
        have HQ1 : Hid (qrepsP l N7 s7 = qrepsP l j x5) := Lib.hid (by rw [HQP2.out, HRP.out, if_pos rfl])
        have HQ2 : Hid (qrepsV l N7 s7 = (rs ++ [⟨(ix : Int), 2, (r : Int), (p : Int), en⟩]) ++ qrepsV l j x5) := Lib.hid (by rw [HQV2.out, HRP.out, HRV.out, if_pos rfl]; rfl)
        clear HQP2 HQV2 HRP HRV
        go_wp2_with (first | ((with_reducible refine Hp.allo (ty := 55) H ?_); refine ⟨rfl, ?_⟩; refine ⟨_, z_look rfl, ?_⟩; (clear H; intro g8 w1 H); (replace H := H.rot2); go_frame) | ((with_reducible refine Hp.ld H ?_); refine ⟨rfl, ?_⟩; refine ⟨c_look rfl, ?_⟩; refine ⟨_, _, rfl, ?_⟩; (first | refine ⟨_, _, _, .z, ?_⟩ | refine ⟨_, _, _, .s .z, ?_⟩ | refine ⟨_, _, _, .s (.s .z), ?_⟩ | refine ⟨_, _, _, .s (.s (.s .z)), ?_⟩); refine ⟨_, rfl, ?_⟩; go_frame) | ((with_reducible refine Hp.lda H ?_); refine ⟨rfl, by kernel_rfl, ?_⟩; refine ⟨_, s_look rfl, ?_⟩; refine ⟨_, rfl, ?_⟩; (first | refine ⟨_, _, _, .z, ?_⟩ | refine ⟨_, _, _, .s .z, ?_⟩ | refine ⟨_, _, _, .s (.s .z), ?_⟩ | refine ⟨_, _, _, .s (.s (.s .z)), ?_⟩); refine ⟨rfl, ?_⟩; go_frame) | ((with_reducible refine Hp.stv H ?_); refine ⟨rfl, ?_⟩; refine ⟨c_look rfl, ?_⟩; (first | refine ⟨.bool _, rfl, ?_⟩ | refine ⟨.int _ _, rfl, ?_⟩ | refine ⟨.string _, rfl, ?_⟩ | refine ⟨.slice _ _ _, rfl, ?_⟩ | refine ⟨.pointer _, rfl, ?_⟩); refine ⟨rfl, _, _, rfl, ?_⟩; (first | refine ⟨_, _, _, .z, ?_⟩ | refine ⟨_, _, _, .s .z, ?_⟩ | refine ⟨_, _, _, .s (.s .z), ?_⟩ | refine ⟨_, _, _, .s (.s (.s .z)), ?_⟩); refine ⟨⟨_, rfl⟩, ?_⟩; (clear H; intro w1 H; simp only [List.set] at H); go_frame) | ((with_reducible refine Hp.sta H ?_); refine ⟨rfl, ?_⟩; refine ⟨_, s_look rfl, ?_⟩; refine ⟨_, rfl, _, rfl, rfl, ?_⟩; (first | refine ⟨_, _, _, .z, ?_⟩ | refine ⟨_, _, _, .s .z, ?_⟩ | refine ⟨_, _, _, .s (.s .z), ?_⟩ | refine ⟨_, _, _, .s (.s (.s .z)), ?_⟩); refine ⟨rfl, rfl, ?_⟩; (clear H; intro w1 H; simp only [List.set] at H); go_frame) | ((with_reducible refine Hp.bdl (t := 55) (parts := [_]) H ?_); refine ⟨rfl, _, b_rp1 _, ?_⟩; go_frame) | ((with_reducible refine (qnum_v HS1.out HIX.out A c g w0 _ _ hr hc hm hqs six_le6 H six_int).mono ?_); (rintro _ w1 ⟨rfl, HQ⟩; replace H := HQ; clear HQ)) | ((with_reducible refine (qnum_v HS2.out HST.out A c g w0 _ _ hr hc hm hx1 one_le6 H one_int).mono ?_); (rintro _ w1 ⟨rfl, HQ⟩; replace H := HQ; clear HQ)) | ((with_reducible refine (qbal_v HS4.out HR.out HP.out A c g w0 _ _ hr hc hm hx2 H).mono ?_); (rintro _ w1 ⟨rfl, HQ⟩; replace H := HQ; clear HQ)) | ((with_reducible refine (qent_v HS5.out HEN.out A c g w0 _ _ hr hc hm H).mono ?_); (rintro _ w1 ⟨rfl, HQ⟩; replace H := HQ; clear HQ)) | ((with_reducible refine Hp.str H ?_); refine ⟨rfl, ?_⟩; refine ⟨_, s_look rfl, ?_⟩; refine ⟨_, _, rfl, baC r p, rfl, rfl, ?_⟩; (first | refine ⟨_, _, _, .z, ?_⟩ | refine ⟨_, _, _, .s .z, ?_⟩ | refine ⟨_, _, _, .s (.s .z), ?_⟩ | refine ⟨_, _, _, .s (.s (.s .z)), ?_⟩); refine ⟨rfl, rpC ⟨(ix : Int), 2, (r : Int), (p : Int), en0⟩, rfl, _, rfl, Nat.le_of_ble_eq_true rfl, ?_⟩; (clear H; intro w1 H; simp only [List.set] at H); go_frame) | ((with_reducible refine Hp.str H ?_); refine ⟨rfl, ?_⟩; refine ⟨_, s_look rfl, ?_⟩; refine ⟨_, _, rfl, enC en, rfl, rfl, ?_⟩; (first | refine ⟨_, _, _, .z, ?_⟩ | refine ⟨_, _, _, .s .z, ?_⟩ | refine ⟨_, _, _, .s (.s .z), ?_⟩ | refine ⟨_, _, _, .s (.s (.s .z)), ?_⟩); refine ⟨rfl, rpC ⟨(ix : Int), 2, (r : Int), (p : Int), en⟩, rfl, _, rfl, Nat.le_of_ble_eq_true rfl, ?_⟩; (clear H; intro w1 H; simp only [List.set] at H); go_frame) | ((with_reducible refine Hp.bsl1 H rps_u rp_info2 rfl rfl ?_); refine ⟨rfl, rpC ⟨(ix : Int), 2, (r : Int), (p : Int), en⟩, rfl, rfl, ?_⟩; (clear H; intro gb w1 H); go_frame) | (at_builtin; (with_reducible refine Hp.wlAppRow H rps_u rp_info rfl rfl rfl ?_); refine ⟨5, _, _, _, _, rfl, rfl, 0, _, _, _, rpC ⟨(ix : Int), 2, (r : Int), (p : Int), en⟩, rfl, rfl, rfl, rpC_one _, hql, ?_⟩; (clear H; intro A1 c1 w1 H); simp only [List.set_cons_succ, List.set_cons_zero] at H; replace H := H.tail))
        (replace H : Hp w0 w1 (_ :: .blk g8 _ _ :: .blk gm 34 ((mgC (cpM tt rs [] Ar cr none 0)).set 25 (.slice A1 (rs.length + 1) c1)) :: .blk gr 34 (mgC mg0) :: Item.own 55 11 A1 (rs.length + 1) c1 (rowsC rpC rs ++ rpC ⟨(ix : Int), 2, (r : Int), (p : Int), en⟩) :: L) := H; rw [mg_app tt rs ⟨(ix : Int), 2, (r : Int), (p : Int), en⟩ [] Ar cr none 0 A1 c1, rw_app rs ⟨(ix : Int), 2, (r : Int), (p : Int), en⟩ A1 c1] at H; replace H := H.rot2.tail; go_roundw; (case rel => rw [hR0]; exact ⟨i + 1, j, _, _, A1, c1, (by have := HIK.out; omega), rfl, (by rw [List.length_append, HLN.out]; rfl), HQ1.out, HQ2.out, hx5, H⟩); (case measure => show N7 - ((i : Int) + 1).toNat < N7 - ((i : Int)).toNat; have := HIK.out; omega))
      by_cases h3 : st = 3
      · subst h3
        have HQ1 : Hid (qrepsP l N7 s7 = qrepsP l j x4) := Lib.hid (by rw [HQP2.out, HRP.out, if_neg h2, if_pos rfl])
        have HQ2 : Hid (qrepsV l N7 s7 = (rs ++ [⟨(ix : Int), 3, (r : Int), (p : Int), en0⟩]) ++ qrepsV l j x4) := Lib.hid (by rw [HQV2.out, HRP.out, HRV.out, if_neg h2, if_pos rfl]; rfl)
        clear HQP2 HQV2 HRP HRV h2
        go_wp2_with (first | ((with_reducible refine Hp.allo (ty := 55) H ?_); refine ⟨rfl, ?_⟩; refine ⟨_, z_look rfl, ?_⟩; (clear H; intro g8 w1 H); (replace H := H.rot2); go_frame) | ((with_reducible refine Hp.ld H ?_); refine ⟨rfl, ?_⟩; refine ⟨c_look rfl, ?_⟩; refine ⟨_, _, rfl, ?_⟩; (first | refine ⟨_, _, _, .z, ?_⟩ | refine ⟨_, _, _, .s .z, ?_⟩ | refine ⟨_, _, _, .s (.s .z), ?_⟩ | refine ⟨_, _, _, .s (.s (.s .z)), ?_⟩); refine ⟨_, rfl, ?_⟩; go_frame) | ((with_reducible refine Hp.lda H ?_); refine ⟨rfl, by kernel_rfl, ?_⟩; refine ⟨_, s_look rfl, ?_⟩; refine ⟨_, rfl, ?_⟩; (first | refine ⟨_, _, _, .z, ?_⟩ | refine ⟨_, _, _, .s .z, ?_⟩ | refine ⟨_, _, _, .s (.s .z), ?_⟩ | refine ⟨_, _, _, .s (.s (.s .z)), ?_⟩); refine ⟨rfl, ?_⟩; go_frame) | ((with_reducible refine Hp.stv H ?_); refine ⟨rfl, ?_⟩; refine ⟨c_look rfl, ?_⟩; (first | refine ⟨.bool _, rfl, ?_⟩ | refine ⟨.int _ _, rfl, ?_⟩ | refine ⟨.string _, rfl, ?_⟩ | refine ⟨.slice _ _ _, rfl, ?_⟩ | refine ⟨.pointer _, rfl, ?_⟩); refine ⟨rfl, _, _, rfl, ?_⟩; (first | refine ⟨_, _, _, .z, ?_⟩ | refine ⟨_, _, _, .s .z, ?_⟩ | refine ⟨_, _, _, .s (.s .z), ?_⟩ | refine ⟨_, _, _, .s (.s (.s .z)), ?_⟩); refine ⟨⟨_, rfl⟩, ?_⟩; (clear H; intro w1 H; simp only [List.set] at H); go_frame) | ((with_reducible refine Hp.sta H ?_); refine ⟨rfl, ?_⟩; refine ⟨_, s_look rfl, ?_⟩; refine ⟨_, rfl, _, rfl, rfl, ?_⟩; (first | refine ⟨_, _, _, .z, ?_⟩ | refine ⟨_, _, _, .s .z, ?_⟩ | refine ⟨_, _, _, .s (.s .z), ?_⟩ | refine ⟨_, _, _, .s (.s (.s .z)), ?_⟩); refine ⟨rfl, rfl, ?_⟩; (clear H; intro w1 H; simp only [List.set] at H); go_frame) | ((with_reducible refine Hp.bdl (t := 55) (parts := [_]) H ?_); refine ⟨rfl, _, b_rp1 _, ?_⟩; go_frame) | ((with_reducible refine (qnum_v HS1.out HIX.out A c g w0 _ _ hr hc hm hqs six_le6 H six_int).mono ?_); (rintro _ w1 ⟨rfl, HQ⟩; replace H := HQ; clear HQ)) | ((with_reducible refine (qnum_v HS2.out HST.out A c g w0 _ _ hr hc hm hx1 one_le6 H one_int).mono ?_); (rintro _ w1 ⟨rfl, HQ⟩; replace H := HQ; clear HQ)) | ((with_reducible refine (qbal_v HS4.out HR.out HP.out A c g w0 _ _ hr hc hm hx2 H).mono ?_); (rintro _ w1 ⟨rfl, HQ⟩; replace H := HQ; clear HQ)) | ((with_reducible refine Hp.str H ?_); refine ⟨rfl, ?_⟩; refine ⟨_, s_look rfl, ?_⟩; refine ⟨_, _, rfl, baC r p, rfl, rfl, ?_⟩; (first | refine ⟨_, _, _, .z, ?_⟩ | refine ⟨_, _, _, .s .z, ?_⟩ | refine ⟨_, _, _, .s (.s .z), ?_⟩ | refine ⟨_, _, _, .s (.s (.s .z)), ?_⟩); refine ⟨rfl, rpC ⟨(ix : Int), 3, (r : Int), (p : Int), en0⟩, rfl, _, rfl, Nat.le_of_ble_eq_true rfl, ?_⟩; (clear H; intro w1 H; simp only [List.set] at H); go_frame) | ((with_reducible refine Hp.bsl1 H rps_u rp_info2 rfl rfl ?_); refine ⟨rfl, rpC ⟨(ix : Int), 3, (r : Int), (p : Int), en0⟩, rfl, rfl, ?_⟩; (clear H; intro gb w1 H); go_frame) | (at_builtin; (with_reducible refine Hp.wlAppRow H rps_u rp_info rfl rfl rfl ?_); refine ⟨5, _, _, _, _, rfl, rfl, 0, _, _, _, rpC ⟨(ix : Int), 3, (r : Int), (p : Int), en0⟩, rfl, rfl, rfl, rpC_one _, hql, ?_⟩; (clear H; intro A1 c1 w1 H); simp only [List.set_cons_succ, List.set_cons_zero] at H; replace H := H.tail))
        (replace H : Hp w0 w1 (_ :: .blk g8 _ _ :: .blk gm 34 ((mgC (cpM tt rs [] Ar cr none 0)).set 25 (.slice A1 (rs.length + 1) c1)) :: .blk gr 34 (mgC mg0) :: Item.own 55 11 A1 (rs.length + 1) c1 (rowsC rpC rs ++ rpC ⟨(ix : Int), 3, (r : Int), (p : Int), en0⟩) :: L) := H; rw [mg_app tt rs ⟨(ix : Int), 3, (r : Int), (p : Int), en0⟩ [] Ar cr none 0 A1 c1, rw_app rs ⟨(ix : Int), 3, (r : Int), (p : Int), en0⟩ A1 c1] at H; replace H := H.rot2.tail; go_roundw; (case rel => rw [hR0]; exact ⟨i + 1, j, _, _, A1, c1, (by have := HIK.out; omega), rfl, (by rw [List.length_append, HLN.out]; rfl), HQ1.out, HQ2.out, hx4, H⟩); (case measure => show N7 - ((i : Int) + 1).toNat < N7 - ((i : Int)).toNat; have := HIK.out; omega))
      · have b2 : ((st : Int) == 2) = false := beq_eq_false_iff_ne.mpr (by omega)
        have b3 : ((st : Int) == 3) = false := beq_eq_false_iff_ne.mpr (by omega)
        have HQ1 : Hid (qrepsP l N7 s7 = qrepsP l j x2) := Lib.hid (by rw [HQP2.out, HRP.out, if_neg h2, if_neg h3])
        have h23 : ¬ (st = 2 ∨ st = 3) := by omega
        have HQ2 : Hid (qrepsV l N7 s7 = (rs ++ [⟨(ix : Int), (st : Int), 0, 0, en0⟩]) ++ qrepsV l j x2) := Lib.hid (by rw [HQV2.out, HRP.out, HRV.out]; simp only [if_neg h2, if_neg h3, if_neg h23])
        clear HQP2 HQV2 HRP HRV h2 h3 h23
        go_wp2_with (first | ((with_reducible refine Hp.allo (ty := 55) H ?_); refine ⟨rfl, ?_⟩; refine ⟨_, z_look rfl, ?_⟩; (clear H; intro g8 w1 H); (replace H := H.rot2); go_frame) | ((with_reducible refine Hp.ld H ?_); refine ⟨rfl, ?_⟩; refine ⟨c_look rfl, ?_⟩; refine ⟨_, _, rfl, ?_⟩; (first | refine ⟨_, _, _, .z, ?_⟩ | refine ⟨_, _, _, .s .z, ?_⟩ | refine ⟨_, _, _, .s (.s .z), ?_⟩ | refine ⟨_, _, _, .s (.s (.s .z)), ?_⟩); refine ⟨_, rfl, ?_⟩; go_frame) | ((with_reducible refine Hp.lda H ?_); refine ⟨rfl, by kernel_rfl, ?_⟩; refine ⟨_, s_look rfl, ?_⟩; refine ⟨_, rfl, ?_⟩; (first | refine ⟨_, _, _, .z, ?_⟩ | refine ⟨_, _, _, .s .z, ?_⟩ | refine ⟨_, _, _, .s (.s .z), ?_⟩ | refine ⟨_, _, _, .s (.s (.s .z)), ?_⟩); refine ⟨rfl, ?_⟩; go_frame) | ((with_reducible refine Hp.stv H ?_); refine ⟨rfl, ?_⟩; refine ⟨c_look rfl, ?_⟩; (first | refine ⟨.bool _, rfl, ?_⟩ | refine ⟨.int _ _, rfl, ?_⟩ | refine ⟨.string _, rfl, ?_⟩ | refine ⟨.slice _ _ _, rfl, ?_⟩ | refine ⟨.pointer _, rfl, ?_⟩); refine ⟨rfl, _, _, rfl, ?_⟩; (first | refine ⟨_, _, _, .z, ?_⟩ | refine ⟨_, _, _, .s .z, ?_⟩ | refine ⟨_, _, _, .s (.s .z), ?_⟩ | refine ⟨_, _, _, .s (.s (.s .z)), ?_⟩); refine ⟨⟨_, rfl⟩, ?_⟩; (clear H; intro w1 H; simp only [List.set] at H); go_frame) | ((with_reducible refine Hp.sta H ?_); refine ⟨rfl, ?_⟩; refine ⟨_, s_look rfl, ?_⟩; refine ⟨_, rfl, _, rfl, rfl, ?_⟩; (first | refine ⟨_, _, _, .z, ?_⟩ | refine ⟨_, _, _, .s .z, ?_⟩ | refine ⟨_, _, _, .s (.s .z), ?_⟩ | refine ⟨_, _, _, .s (.s (.s .z)), ?_⟩); refine ⟨rfl, rfl, ?_⟩; (clear H; intro w1 H; simp only [List.set] at H); go_frame) | ((with_reducible refine Hp.bdl (t := 55) (parts := [_]) H ?_); refine ⟨rfl, _, b_rp1 _, ?_⟩; go_frame) | ((with_reducible refine (qnum_v HS1.out HIX.out A c g w0 _ _ hr hc hm hqs six_le6 H six_int).mono ?_); (rintro _ w1 ⟨rfl, HQ⟩; replace H := HQ; clear HQ)) | ((with_reducible refine (qnum_v HS2.out HST.out A c g w0 _ _ hr hc hm hx1 one_le6 H one_int).mono ?_); (rintro _ w1 ⟨rfl, HQ⟩; replace H := HQ; clear HQ)) | ((with_reducible refine Hp.bsl1 H rps_u rp_info2 rfl rfl ?_); refine ⟨rfl, rpC ⟨(ix : Int), (st : Int), 0, 0, en0⟩, rfl, rfl, ?_⟩; (clear H; intro gb w1 H); go_frame) | (at_builtin; (with_reducible refine Hp.wlAppRow H rps_u rp_info rfl rfl rfl ?_); refine ⟨5, _, _, _, _, rfl, rfl, 0, _, _, _, rpC ⟨(ix : Int), (st : Int), 0, 0, en0⟩, rfl, rfl, rfl, rpC_one _, hql, ?_⟩; (clear H; intro A1 c1 w1 H); simp only [List.set_cons_succ, List.set_cons_zero] at H; replace H := H.tail))
        (replace H : Hp w0 w1 (_ :: .blk g8 _ _ :: .blk gm 34 ((mgC (cpM tt rs [] Ar cr none 0)).set 25 (.slice A1 (rs.length + 1) c1)) :: .blk gr 34 (mgC mg0) :: Item.own 55 11 A1 (rs.length + 1) c1 (rowsC rpC rs ++ rpC ⟨(ix : Int), (st : Int), 0, 0, en0⟩) :: L) := H; rw [mg_app tt rs ⟨(ix : Int), (st : Int), 0, 0, en0⟩ [] Ar cr none 0 A1 c1, rw_app rs ⟨(ix : Int), (st : Int), 0, 0, en0⟩ A1 c1] at H; replace H := H.rot2.tail; go_roundw; (case rel => rw [hR0]; exact ⟨i + 1, j, _, _, A1, c1, (by have := HIK.out; omega), rfl, (by rw [List.length_append, HLN.out]; rfl), HQ1.out, HQ2.out, hx2, H⟩); (case measure => show N7 - ((i : Int) + 1).toNat < N7 - ((i : Int)).toNat; have := HIK.out; omega))
end Go.Proofs.YtajgikjmoeemnaaDoor
