/-
  THE WALK OF sextonref20's reading: message, but for the promise. (Printed by wip/bin/genrdc.py.)
-/
import Derived.Test.YtajgikjmoeemnaaDoorRdC
import Derived.Test.YtajgikjmoeemnaaDoorPaE
namespace Go.Proofs.YtajgikjmoeemnaaDoor
set_option maxRecDepth 100000
open Go.RowKit
set_option linter.unusedVariables false
set_option linter.unusedSimpArgs false
def RetQM (w0 : World) (g : Nat) (A : Option Addr) (c : Nat) (l : List UInt8) (x : Sq) (L : List Item) (e : Ending) (w' : World) : Prop :=
  ∃ Ar cr By dy Yi, YI By dy x.y Yi ∧ e = .returned (.agg (mgC (cpM x.t x.rs x.y Ar cr By dy)).toArray) ∧ Hp w0 w' ((rrI g A l.length c x.s :: rwI Ar cr x.rs :: L) ++ Yi)
theorem Hp.finS {w0 w : World} {a b c : Item} {L : List Item} (H : Hp w0 w (a :: b :: c :: L)) : Hp w0 w ((a :: rwI none 0 [] :: L) ++ []) := by
  rw [List.append_nil]
  have h : Hp w0 w (a :: rwI none 0 [] :: b :: c :: L) := (H.nilRow 55 11).rot2
  exact h.sub ((((List.sublist_cons_self c L).trans (List.Sublist.refl _) |>.trans (List.sublist_cons_self b (c :: L))).cons_cons _).cons_cons _)
theorem Hp.finO {w0 w : World} {a b c o : Item} {L : List Item} (H : Hp w0 w (a :: b :: o :: c :: L)) : Hp w0 w ((a :: rwI none 0 [] :: L) ++ [o]) := by
  have h : Hp w0 w (a :: rwI none 0 [] :: b :: o :: c :: L) := (H.nilRow 55 11).rot2
  have h2 : Hp w0 w (a :: rwI none 0 [] :: o :: L) := h.sub ((((((List.sublist_cons_self c L).cons_cons o).trans (List.sublist_cons_self b (o :: c :: L))).cons_cons _).cons_cons _))
  exact h2.perm (List.perm_append_comm (l₁ := [o]) (l₂ := a :: rwI none 0 [] :: L) |> fun p => ((List.perm_middle (a := o) (l₁ := [a, rwI none 0 []]) (l₂ := L)).trans p))
theorem Hp.putRw {w0 w : World} {a b c : Item} {L : List Item} (H : Hp w0 w (a :: b :: c :: L)) : Hp w0 w (a :: b :: c :: rwI none 0 [] :: L) :=
  (H.nilRow 55 11).perm (List.perm_middle (a := rwI none 0 []) (l₁ := [a, b, c]) (l₂ := L)).symm
theorem qwho_v {l : List UInt8} {s s' : Qs} {F : Int} (hS : rnP l s 1 = s') (hN : whoQ (leN (rnV l s 1) : Nat) = F) (A : Option Addr) (c : Nat) (g : Nat) (w0 w : World) (L : List Item) (hr : Rd w0 A l) (hc : l.length ≤ c) (hm : c ≤ maxLen) (hq : s.a ≤ l.length) (H : Hp w0 w (rrI g A l.length c s :: L)) :
    Calls Tryd.prog 71 #[.pointer (some ⟨g, 0, none⟩)] w (RetH w0 (rrI g A l.length c s' :: L) (.int .i64 F)) := by
  subst hS hN
  exact qwho_any A c l s g w0 w L hr hc hm hq H
theorem qtxt_v {l V : List UInt8} {s s' : Qs} (hS : xqP l s = s') (hN : xqV l s = V) (A : Option Addr) (c : Nat) (g : Nat) (w0 w : World) (L : List Item) (hr : Rd w0 A l) (hc : l.length ≤ c) (hm : c ≤ maxLen) (hq : s.a ≤ l.length) (H : Hp w0 w (rrI g A l.length c s :: L)) :
    Calls Tryd.prog 73 #[.pointer (some ⟨g, 0, none⟩)] w (RetH w0 (rrI g A l.length c s' :: L) (.string (bs V))) := by
  subst hS hN
  exact qtxt_any A c l s g w0 w L hr hc hm hq H
theorem qbal_v {l : List UInt8} {s s' : Qs} {r p : Nat} (hS : rnP l (rnP l s 6) 1 = s') (h1 : leN (rnV l s 6) = r) (h2 : leN (rnV l (rnP l s 6) 1) = p) (A : Option Addr) (c : Nat) (g : Nat) (w0 w : World) (L : List Item) (hr : Rd w0 A l) (hc : l.length ≤ c) (hm : c ≤ maxLen) (hq : s.a ≤ l.length) (H : Hp w0 w (rrI g A l.length c s :: L)) :
    Calls Tryd.prog 72 #[.pointer (some ⟨g, 0, none⟩)] w (RetH w0 (rrI g A l.length c s' :: L) (.agg (baC r p).toArray)) := by
  subst hS h1 h2
  exact qbal_any A c l s g w0 w L hr hc hm hq H
theorem qent_v {l : List UInt8} {s s' : Qs} {e : En} (hS : eqP l s = s') (h1 : eqV l s = e) (A : Option Addr) (c : Nat) (g : Nat) (w0 w : World) (L : List Item) (hr : Rd w0 A l) (hc : l.length ≤ c) (hm : c ≤ maxLen) (H : Hp w0 w (rrI g A l.length c s :: L)) :
    Calls Tryd.prog 74 #[.pointer (some ⟨g, 0, none⟩)] w (RetH w0 (rrI g A l.length c s' :: L) (.agg (enC e).toArray)) := by
  subst hS h1
  exact qent_any A c l s g w0 w L hr hc hm H
theorem xqV_len (l : List UInt8) (s : Qs) : (xqV l s).length ≤ 255 := by
  have h1 := leN_1 l s
  have h2 := rnV_len l (rnP l s 1) (xqN l s)
  unfold xqV
  unfold xqN at h2 ⊢
  omega
theorem u8_nat {n : Nat} (h : n < 256) : IntKind.u8.wrap (n : Int) = n := by unfold IntKind.wrap; simp [IntKind.signed, IntKind.bits]; omega

set_option maxRecDepth 100000 in
set_option maxHeartbeats 4000000 in
theorem qmsg_1 (A : Option Addr) (c : Nat) (l : List UInt8) (g : Nat) (w0 w : World) (L : List Item) (hr : Rd w0 A l) (hc : l.length ≤ c) (hm : c ≤ maxLen) (H : Hp w0 w (rrI g A l.length c ⟨0, false⟩ :: L)) (hK : leN (rnV l ⟨0, false⟩ 1) = 1) :
    Calls Tryd.prog 46 #[.pointer (some ⟨g, 0, none⟩)] w (RetQM w0 g A c l (qAll l) L) := by
  have e : qAll l = ⟨xqP l (xqP l (xqP l (rnP l (rnP l (rnP l (rnP l (rnP l ⟨0, false⟩ 1) 1) 1) 6) 1))), { mg0 with k := 1, fr := whoQ (leN (rnV l (rnP l ⟨0, false⟩ 1) 1) : Nat), to := whoQ (leN (rnV l (rnP l (rnP l ⟨0, false⟩ 1) 1) 1) : Nat), sq := (leN (rnV l (rnP l (rnP l (rnP l ⟨0, false⟩ 1) 1) 1) 6) : Nat), ok := (leN (rnV l (rnP l (rnP l (rnP l (rnP l ⟨0, false⟩ 1) 1) 1) 6) 1) : Nat), o0 := bs (xqV l (rnP l (rnP l (rnP l (rnP l (rnP l ⟨0, false⟩ 1) 1) 1) 6) 1)), o1 := bs (xqV l (xqP l (rnP l (rnP l (rnP l (rnP l (rnP l ⟨0, false⟩ 1) 1) 1) 6) 1))), o2 := bs (xqV l (xqP l (xqP l (rnP l (rnP l (rnP l (rnP l (rnP l ⟨0, false⟩ 1) 1) 1) 6) 1)))) }, [], []⟩ := by
    have hl : qlets (qheadP l).t.k = [115, 111] := by
      rw [show (qheadP l).t.k = 1 from by show ((leN (rnV l ⟨0, false⟩ 1) : Nat) : Int) = 1; rw [hK]; rfl]
      decide +kernel
    unfold qAll
    rw [hl]
    refine Eq.trans (b := ⟨xqP l (xqP l (xqP l (rnP l (rnP l (rnP l (rnP l (rnP l ⟨0, false⟩ 1) 1) 1) 6) 1))), { mg0 with k := ((leN (rnV l ⟨0, false⟩ 1) : Nat) : Int), fr := whoQ (leN (rnV l (rnP l ⟨0, false⟩ 1) 1) : Nat), to := whoQ (leN (rnV l (rnP l (rnP l ⟨0, false⟩ 1) 1) 1) : Nat), sq := (leN (rnV l (rnP l (rnP l (rnP l ⟨0, false⟩ 1) 1) 1) 6) : Nat), ok := (leN (rnV l (rnP l (rnP l (rnP l (rnP l ⟨0, false⟩ 1) 1) 1) 6) 1) : Nat), o0 := bs (xqV l (rnP l (rnP l (rnP l (rnP l (rnP l ⟨0, false⟩ 1) 1) 1) 6) 1)), o1 := bs (xqV l (xqP l (rnP l (rnP l (rnP l (rnP l (rnP l ⟨0, false⟩ 1) 1) 1) 6) 1))), o2 := bs (xqV l (xqP l (xqP l (rnP l (rnP l (rnP l (rnP l (rnP l ⟨0, false⟩ 1) 1) 1) 6) 1)))) }, [], []⟩) rfl ?_
    rw [hK]
    rfl
  have hq0 : (⟨0, false⟩ : Qs).a ≤ l.length := Nat.zero_le _
  have hb0 := leN_1 l ⟨0, false⟩
  have HN1 := Lib.hid hK
  clear hK hb0
  have hq1 : (rnP l ⟨0, false⟩ 1).a ≤ l.length := rnP_le hq0
  obtain ⟨s1, h⟩ : ∃ x, rnP l ⟨0, false⟩ 1 = x := ⟨_, rfl⟩
  rw [h] at e hq1
  have HS1 := Lib.hid h
  clear h
  obtain ⟨F, h⟩ : ∃ x, whoQ (leN (rnV l s1 1) : Nat) = x := ⟨_, rfl⟩
  rw [h] at e
  have HF := Lib.hid h
  clear h
  have hq2 : (rnP l s1 1).a ≤ l.length := rnP_le hq1
  obtain ⟨s2, h⟩ : ∃ x, rnP l s1 1 = x := ⟨_, rfl⟩
  rw [h] at e hq2
  have HS2 := Lib.hid h
  clear h
  obtain ⟨T, h⟩ : ∃ x, whoQ (leN (rnV l s2 1) : Nat) = x := ⟨_, rfl⟩
  rw [h] at e
  have HT := Lib.hid h
  clear h
  have hq3 : (rnP l s2 1).a ≤ l.length := rnP_le hq2
  obtain ⟨s3, h⟩ : ∃ x, rnP l s2 1 = x := ⟨_, rfl⟩
  rw [h] at e hq3
  have HS3 := Lib.hid h
  clear h
  obtain ⟨N4, h⟩ : ∃ x, leN (rnV l s3 6) = x := ⟨_, rfl⟩
  rw [h] at e
  have HN4 := Lib.hid h
  clear h
  have hq4 : (rnP l s3 6).a ≤ l.length := rnP_le hq3
  obtain ⟨s4, h⟩ : ∃ x, rnP l s3 6 = x := ⟨_, rfl⟩
  rw [h] at e hq4
  have HS4 := Lib.hid h
  clear h
  have hb5 := leN_1 l s4
  obtain ⟨N5, h⟩ : ∃ x, leN (rnV l s4 1) = x := ⟨_, rfl⟩
  rw [h] at e hb5
  have HN5 := Lib.hid h
  clear h
  have hw5 := u8_nat hb5
  clear hb5
  have hq5 : (rnP l s4 1).a ≤ l.length := rnP_le hq4
  obtain ⟨s5, h⟩ : ∃ x, rnP l s4 1 = x := ⟨_, rfl⟩
  rw [h] at e hq5
  have HS5 := Lib.hid h
  clear h
  obtain ⟨V6, h⟩ : ∃ x, xqV l s5 = x := ⟨_, rfl⟩
  rw [h] at e
  have HN6 := Lib.hid h
  clear h
  have hq6 : (xqP l s5).a ≤ l.length := xqP_le hq5
  obtain ⟨s6, h⟩ : ∃ x, xqP l s5 = x := ⟨_, rfl⟩
  rw [h] at e hq6
  have HS6 := Lib.hid h
  clear h
  obtain ⟨V7, h⟩ : ∃ x, xqV l s6 = x := ⟨_, rfl⟩
  rw [h] at e
  have HN7 := Lib.hid h
  clear h
  have hq7 : (xqP l s6).a ≤ l.length := xqP_le hq6
  obtain ⟨s7, h⟩ : ∃ x, xqP l s6 = x := ⟨_, rfl⟩
  rw [h] at e hq7
  have HS7 := Lib.hid h
  clear h
  obtain ⟨V8, h⟩ : ∃ x, xqV l s7 = x := ⟨_, rfl⟩
  rw [h] at e
  have HN8 := Lib.hid h
  clear h
  have hq8 : (xqP l s7).a ≤ l.length := xqP_le hq7
  obtain ⟨s8, h⟩ : ∃ x, xqP l s7 = x := ⟨_, rfl⟩
  rw [h] at e hq8
  have HS8 := Lib.hid h
  clear h
  rw [e]
  clear e
  go_enter Tryd.func46, Tryd.ntmps46; go_wp2_with (first | ((with_reducible refine Hp.allo (ty := 34) H ?_); refine ⟨rfl, ?_⟩; refine ⟨_, z_look rfl, ?_⟩; (clear H; intro gr w1 H); (replace H := H.rot2); go_frame) | ((with_reducible refine Hp.ld H ?_); refine ⟨rfl, ?_⟩; refine ⟨c_look rfl, ?_⟩; refine ⟨_, _, rfl, ?_⟩; (first | refine ⟨_, _, _, .z, ?_⟩ | refine ⟨_, _, _, .s .z, ?_⟩ | refine ⟨_, _, _, .s (.s .z), ?_⟩ | refine ⟨_, _, _, .s (.s (.s .z)), ?_⟩); refine ⟨_, rfl, ?_⟩; go_frame) | ((with_reducible refine Hp.lda H ?_); refine ⟨rfl, by kernel_rfl, ?_⟩; refine ⟨_, s_look rfl, ?_⟩; refine ⟨_, rfl, ?_⟩; (first | refine ⟨_, _, _, .z, ?_⟩ | refine ⟨_, _, _, .s .z, ?_⟩ | refine ⟨_, _, _, .s (.s .z), ?_⟩ | refine ⟨_, _, _, .s (.s (.s .z)), ?_⟩); refine ⟨rfl, ?_⟩; go_frame) | ((with_reducible refine Hp.stv H ?_); refine ⟨rfl, ?_⟩; refine ⟨c_look rfl, ?_⟩; (first | refine ⟨.bool _, rfl, ?_⟩ | refine ⟨.int _ _, rfl, ?_⟩ | refine ⟨.string _, rfl, ?_⟩ | refine ⟨.slice _ _ _, rfl, ?_⟩ | refine ⟨.pointer _, rfl, ?_⟩); refine ⟨rfl, _, _, rfl, ?_⟩; (first | refine ⟨_, _, _, .z, ?_⟩ | refine ⟨_, _, _, .s .z, ?_⟩ | refine ⟨_, _, _, .s (.s .z), ?_⟩ | refine ⟨_, _, _, .s (.s (.s .z)), ?_⟩); refine ⟨⟨_, rfl⟩, ?_⟩; (clear H; intro w1 H; simp only [List.set] at H); go_frame) | ((with_reducible refine Hp.sta H ?_); refine ⟨rfl, ?_⟩; refine ⟨_, s_look rfl, ?_⟩; refine ⟨_, rfl, _, rfl, rfl, ?_⟩; (first | refine ⟨_, _, _, .z, ?_⟩ | refine ⟨_, _, _, .s .z, ?_⟩ | refine ⟨_, _, _, .s (.s .z), ?_⟩ | refine ⟨_, _, _, .s (.s (.s .z)), ?_⟩); refine ⟨rfl, rfl, ?_⟩; (clear H; intro w1 H; simp only [List.set] at H); go_frame) | ((with_reducible refine (qnum_v HS1.out HN1.out A c g w0 _ _ hr hc hm hq0 one_le6 H one_int).mono ?_); (rintro _ w1 ⟨rfl, HQ⟩; replace H := HQ; clear HQ)) | ((with_reducible refine (qwho_v HS2.out HF.out A c g w0 _ _ hr hc hm hq1 H).mono ?_); (rintro _ w1 ⟨rfl, HQ⟩; replace H := HQ; clear HQ)) | ((with_reducible refine (qwho_v HS3.out HT.out A c g w0 _ _ hr hc hm hq2 H).mono ?_); (rintro _ w1 ⟨rfl, HQ⟩; replace H := HQ; clear HQ)) | ((with_reducible refine (qnum_v HS4.out HN4.out A c g w0 _ _ hr hc hm hq3 six_le6 H six_int).mono ?_); (rintro _ w1 ⟨rfl, HQ⟩; replace H := HQ; clear HQ)) | ((with_reducible refine (qnum_v HS5.out HN5.out A c g w0 _ _ hr hc hm hq4 one_le6 H one_int).mono ?_); (rintro _ w1 ⟨rfl, HQ⟩; replace H := HQ; clear HQ)) | ((with_reducible refine (qtxt_v HS6.out HN6.out A c g w0 _ _ hr hc hm hq5 H).mono ?_); (rintro _ w1 ⟨rfl, HQ⟩; replace H := HQ; clear HQ)) | ((with_reducible refine (qtxt_v HS7.out HN7.out A c g w0 _ _ hr hc hm hq6 H).mono ?_); (rintro _ w1 ⟨rfl, HQ⟩; replace H := HQ; clear HQ)) | ((with_reducible refine (qtxt_v HS8.out HN8.out A c g w0 _ _ hr hc hm hq7 H).mono ?_); (rintro _ w1 ⟨rfl, HQ⟩; replace H := HQ; clear HQ)))
  exact bodyPost_ret (v := .agg (mgC { mg0 with k := 1, fr := F, to := T, sq := (N4 : Int), ok := (N5 : Int), o0 := bs V6, o1 := bs V7, o2 := bs V8 }).toArray) (results_c rfl rfl (H.var (by kernel_rfl) (t := 34) (cs := mgC { mg0 with k := 1, fr := F, to := T, sq := (N4 : Int), ok := (N5 : Int), o0 := bs V6, o1 := bs V7, o2 := bs V8 }) (.s (.s .z)) s_Msg)) rfl ⟨none, 0, none, 0, [], .inl ⟨rfl, rfl, rfl, rfl⟩, rfl, H.finS⟩
set_option maxRecDepth 100000 in
set_option maxHeartbeats 4000000 in
theorem qmsg_2 (A : Option Addr) (c : Nat) (l : List UInt8) (g : Nat) (w0 w : World) (L : List Item) (hr : Rd w0 A l) (hc : l.length ≤ c) (hm : c ≤ maxLen) (H : Hp w0 w (rrI g A l.length c ⟨0, false⟩ :: L)) (hK : leN (rnV l ⟨0, false⟩ 1) = 2) :
    Calls Tryd.prog 46 #[.pointer (some ⟨g, 0, none⟩)] w (RetQM w0 g A c l (qAll l) L) := by
  have e : qAll l = ⟨xqP l (rnP l (rnP l (rnP l (rnP l (rnP l (rnP l ⟨0, false⟩ 1) 1) 1) 6) 2) 1), { mg0 with k := 2, fr := whoQ (leN (rnV l (rnP l ⟨0, false⟩ 1) 1) : Nat), to := whoQ (leN (rnV l (rnP l (rnP l ⟨0, false⟩ 1) 1) 1) : Nat), sq := (leN (rnV l (rnP l (rnP l (rnP l ⟨0, false⟩ 1) 1) 1) 6) : Nat), re := (leN (rnV l (rnP l (rnP l (rnP l (rnP l ⟨0, false⟩ 1) 1) 1) 6) 2) : Nat), rf := ((leN (rnV l (rnP l (rnP l (rnP l (rnP l (rnP l ⟨0, false⟩ 1) 1) 1) 6) 2) 1) : Nat) : Int) == 1, rv := bs (xqV l (rnP l (rnP l (rnP l (rnP l (rnP l (rnP l ⟨0, false⟩ 1) 1) 1) 6) 2) 1)) }, [], []⟩ := by
    have hl : qlets (qheadP l).t.k = [115, 114] := by
      rw [show (qheadP l).t.k = 2 from by show ((leN (rnV l ⟨0, false⟩ 1) : Nat) : Int) = 2; rw [hK]; rfl]
      decide +kernel
    unfold qAll
    rw [hl]
    refine Eq.trans (b := ⟨xqP l (rnP l (rnP l (rnP l (rnP l (rnP l (rnP l ⟨0, false⟩ 1) 1) 1) 6) 2) 1), { mg0 with k := ((leN (rnV l ⟨0, false⟩ 1) : Nat) : Int), fr := whoQ (leN (rnV l (rnP l ⟨0, false⟩ 1) 1) : Nat), to := whoQ (leN (rnV l (rnP l (rnP l ⟨0, false⟩ 1) 1) 1) : Nat), sq := (leN (rnV l (rnP l (rnP l (rnP l ⟨0, false⟩ 1) 1) 1) 6) : Nat), re := (leN (rnV l (rnP l (rnP l (rnP l (rnP l ⟨0, false⟩ 1) 1) 1) 6) 2) : Nat), rf := ((leN (rnV l (rnP l (rnP l (rnP l (rnP l (rnP l ⟨0, false⟩ 1) 1) 1) 6) 2) 1) : Nat) : Int) == 1, rv := bs (xqV l (rnP l (rnP l (rnP l (rnP l (rnP l (rnP l ⟨0, false⟩ 1) 1) 1) 6) 2) 1)) }, [], []⟩) rfl ?_
    rw [hK]
    rfl
  have hq0 : (⟨0, false⟩ : Qs).a ≤ l.length := Nat.zero_le _
  have hb0 := leN_1 l ⟨0, false⟩
  have HN1 := Lib.hid hK
  clear hK hb0
  have hq1 : (rnP l ⟨0, false⟩ 1).a ≤ l.length := rnP_le hq0
  obtain ⟨s1, h⟩ : ∃ x, rnP l ⟨0, false⟩ 1 = x := ⟨_, rfl⟩
  rw [h] at e hq1
  have HS1 := Lib.hid h
  clear h
  obtain ⟨F, h⟩ : ∃ x, whoQ (leN (rnV l s1 1) : Nat) = x := ⟨_, rfl⟩
  rw [h] at e
  have HF := Lib.hid h
  clear h
  have hq2 : (rnP l s1 1).a ≤ l.length := rnP_le hq1
  obtain ⟨s2, h⟩ : ∃ x, rnP l s1 1 = x := ⟨_, rfl⟩
  rw [h] at e hq2
  have HS2 := Lib.hid h
  clear h
  obtain ⟨T, h⟩ : ∃ x, whoQ (leN (rnV l s2 1) : Nat) = x := ⟨_, rfl⟩
  rw [h] at e
  have HT := Lib.hid h
  clear h
  have hq3 : (rnP l s2 1).a ≤ l.length := rnP_le hq2
  obtain ⟨s3, h⟩ : ∃ x, rnP l s2 1 = x := ⟨_, rfl⟩
  rw [h] at e hq3
  have HS3 := Lib.hid h
  clear h
  obtain ⟨N4, h⟩ : ∃ x, leN (rnV l s3 6) = x := ⟨_, rfl⟩
  rw [h] at e
  have HN4 := Lib.hid h
  clear h
  have hq4 : (rnP l s3 6).a ≤ l.length := rnP_le hq3
  obtain ⟨s4, h⟩ : ∃ x, rnP l s3 6 = x := ⟨_, rfl⟩
  rw [h] at e hq4
  have HS4 := Lib.hid h
  clear h
  obtain ⟨N5, h⟩ : ∃ x, leN (rnV l s4 2) = x := ⟨_, rfl⟩
  rw [h] at e
  have HN5 := Lib.hid h
  clear h
  have hq5 : (rnP l s4 2).a ≤ l.length := rnP_le hq4
  obtain ⟨s5, h⟩ : ∃ x, rnP l s4 2 = x := ⟨_, rfl⟩
  rw [h] at e hq5
  have HS5 := Lib.hid h
  clear h
  have hb6 := leN_1 l s5
  obtain ⟨N6, h⟩ : ∃ x, leN (rnV l s5 1) = x := ⟨_, rfl⟩
  rw [h] at e hb6
  have HN6 := Lib.hid h
  clear h
  have hw6 := u8_nat hb6
  clear hb6
  have hq6 : (rnP l s5 1).a ≤ l.length := rnP_le hq5
  obtain ⟨s6, h⟩ : ∃ x, rnP l s5 1 = x := ⟨_, rfl⟩
  rw [h] at e hq6
  have HS6 := Lib.hid h
  clear h
  obtain ⟨V7, h⟩ : ∃ x, xqV l s6 = x := ⟨_, rfl⟩
  rw [h] at e
  have HN7 := Lib.hid h
  clear h
  have hq7 : (xqP l s6).a ≤ l.length := xqP_le hq6
  obtain ⟨s7, h⟩ : ∃ x, xqP l s6 = x := ⟨_, rfl⟩
  rw [h] at e hq7
  have HS7 := Lib.hid h
  clear h
  rw [e]
  clear e
  go_enter Tryd.func46, Tryd.ntmps46; go_wp2_with (first | ((with_reducible refine Hp.allo (ty := 34) H ?_); refine ⟨rfl, ?_⟩; refine ⟨_, z_look rfl, ?_⟩; (clear H; intro gr w1 H); (replace H := H.rot2); go_frame) | ((with_reducible refine Hp.ld H ?_); refine ⟨rfl, ?_⟩; refine ⟨c_look rfl, ?_⟩; refine ⟨_, _, rfl, ?_⟩; (first | refine ⟨_, _, _, .z, ?_⟩ | refine ⟨_, _, _, .s .z, ?_⟩ | refine ⟨_, _, _, .s (.s .z), ?_⟩ | refine ⟨_, _, _, .s (.s (.s .z)), ?_⟩); refine ⟨_, rfl, ?_⟩; go_frame) | ((with_reducible refine Hp.lda H ?_); refine ⟨rfl, by kernel_rfl, ?_⟩; refine ⟨_, s_look rfl, ?_⟩; refine ⟨_, rfl, ?_⟩; (first | refine ⟨_, _, _, .z, ?_⟩ | refine ⟨_, _, _, .s .z, ?_⟩ | refine ⟨_, _, _, .s (.s .z), ?_⟩ | refine ⟨_, _, _, .s (.s (.s .z)), ?_⟩); refine ⟨rfl, ?_⟩; go_frame) | ((with_reducible refine Hp.stv H ?_); refine ⟨rfl, ?_⟩; refine ⟨c_look rfl, ?_⟩; (first | refine ⟨.bool _, rfl, ?_⟩ | refine ⟨.int _ _, rfl, ?_⟩ | refine ⟨.string _, rfl, ?_⟩ | refine ⟨.slice _ _ _, rfl, ?_⟩ | refine ⟨.pointer _, rfl, ?_⟩); refine ⟨rfl, _, _, rfl, ?_⟩; (first | refine ⟨_, _, _, .z, ?_⟩ | refine ⟨_, _, _, .s .z, ?_⟩ | refine ⟨_, _, _, .s (.s .z), ?_⟩ | refine ⟨_, _, _, .s (.s (.s .z)), ?_⟩); refine ⟨⟨_, rfl⟩, ?_⟩; (clear H; intro w1 H; simp only [List.set] at H); go_frame) | ((with_reducible refine Hp.sta H ?_); refine ⟨rfl, ?_⟩; refine ⟨_, s_look rfl, ?_⟩; refine ⟨_, rfl, _, rfl, rfl, ?_⟩; (first | refine ⟨_, _, _, .z, ?_⟩ | refine ⟨_, _, _, .s .z, ?_⟩ | refine ⟨_, _, _, .s (.s .z), ?_⟩ | refine ⟨_, _, _, .s (.s (.s .z)), ?_⟩); refine ⟨rfl, rfl, ?_⟩; (clear H; intro w1 H; simp only [List.set] at H); go_frame) | ((with_reducible refine (qnum_v HS1.out HN1.out A c g w0 _ _ hr hc hm hq0 one_le6 H one_int).mono ?_); (rintro _ w1 ⟨rfl, HQ⟩; replace H := HQ; clear HQ)) | ((with_reducible refine (qwho_v HS2.out HF.out A c g w0 _ _ hr hc hm hq1 H).mono ?_); (rintro _ w1 ⟨rfl, HQ⟩; replace H := HQ; clear HQ)) | ((with_reducible refine (qwho_v HS3.out HT.out A c g w0 _ _ hr hc hm hq2 H).mono ?_); (rintro _ w1 ⟨rfl, HQ⟩; replace H := HQ; clear HQ)) | ((with_reducible refine (qnum_v HS4.out HN4.out A c g w0 _ _ hr hc hm hq3 six_le6 H six_int).mono ?_); (rintro _ w1 ⟨rfl, HQ⟩; replace H := HQ; clear HQ)) | ((with_reducible refine (qnum_v HS5.out HN5.out A c g w0 _ _ hr hc hm hq4 two_le6 H two_int).mono ?_); (rintro _ w1 ⟨rfl, HQ⟩; replace H := HQ; clear HQ)) | ((with_reducible refine (qnum_v HS6.out HN6.out A c g w0 _ _ hr hc hm hq5 one_le6 H one_int).mono ?_); (rintro _ w1 ⟨rfl, HQ⟩; replace H := HQ; clear HQ)) | ((with_reducible refine (qtxt_v HS7.out HN7.out A c g w0 _ _ hr hc hm hq6 H).mono ?_); (rintro _ w1 ⟨rfl, HQ⟩; replace H := HQ; clear HQ)))
  exact bodyPost_ret (v := .agg (mgC { mg0 with k := 2, fr := F, to := T, sq := (N4 : Int), re := (N5 : Int), rf := (N6 : Int) == 1, rv := bs V7 }).toArray) (results_c rfl rfl (H.var (by kernel_rfl) (t := 34) (cs := mgC { mg0 with k := 2, fr := F, to := T, sq := (N4 : Int), re := (N5 : Int), rf := (N6 : Int) == 1, rv := bs V7 }) (.s (.s .z)) s_Msg)) rfl ⟨none, 0, none, 0, [], .inl ⟨rfl, rfl, rfl, rfl⟩, rfl, H.finS⟩
set_option maxRecDepth 100000 in
set_option maxHeartbeats 4000000 in
theorem qmsg_3 (A : Option Addr) (c : Nat) (l : List UInt8) (g : Nat) (w0 w : World) (L : List Item) (hr : Rd w0 A l) (hc : l.length ≤ c) (hm : c ≤ maxLen) (H : Hp w0 w (rrI g A l.length c ⟨0, false⟩ :: L)) (hK : leN (rnV l ⟨0, false⟩ 1) = 3) :
    Calls Tryd.prog 46 #[.pointer (some ⟨g, 0, none⟩)] w (RetQM w0 g A c l (qAll l) L) := by
  have e : qAll l = ⟨rnP l (rnP l (rnP l (rnP l (rnP l (rnP l ⟨0, false⟩ 1) 1) 1) 6) 1) 6, { mg0 with k := 3, fr := whoQ (leN (rnV l (rnP l ⟨0, false⟩ 1) 1) : Nat), to := whoQ (leN (rnV l (rnP l (rnP l ⟨0, false⟩ 1) 1) 1) : Nat), br := (leN (rnV l (rnP l (rnP l (rnP l ⟨0, false⟩ 1) 1) 1) 6) : Nat), bp := (leN (rnV l (rnP l (rnP l (rnP l (rnP l ⟨0, false⟩ 1) 1) 1) 6) 1) : Nat), ix := (leN (rnV l (rnP l (rnP l (rnP l (rnP l (rnP l ⟨0, false⟩ 1) 1) 1) 6) 1) 6) : Nat) }, [], []⟩ := by
    have hl : qlets (qheadP l).t.k = [98, 105] := by
      rw [show (qheadP l).t.k = 3 from by show ((leN (rnV l ⟨0, false⟩ 1) : Nat) : Int) = 3; rw [hK]; rfl]
      decide +kernel
    unfold qAll
    rw [hl]
    refine Eq.trans (b := ⟨rnP l (rnP l (rnP l (rnP l (rnP l (rnP l ⟨0, false⟩ 1) 1) 1) 6) 1) 6, { mg0 with k := ((leN (rnV l ⟨0, false⟩ 1) : Nat) : Int), fr := whoQ (leN (rnV l (rnP l ⟨0, false⟩ 1) 1) : Nat), to := whoQ (leN (rnV l (rnP l (rnP l ⟨0, false⟩ 1) 1) 1) : Nat), br := (leN (rnV l (rnP l (rnP l (rnP l ⟨0, false⟩ 1) 1) 1) 6) : Nat), bp := (leN (rnV l (rnP l (rnP l (rnP l (rnP l ⟨0, false⟩ 1) 1) 1) 6) 1) : Nat), ix := (leN (rnV l (rnP l (rnP l (rnP l (rnP l (rnP l ⟨0, false⟩ 1) 1) 1) 6) 1) 6) : Nat) }, [], []⟩) rfl ?_
    rw [hK]
    rfl
  have hq0 : (⟨0, false⟩ : Qs).a ≤ l.length := Nat.zero_le _
  have hb0 := leN_1 l ⟨0, false⟩
  have HN1 := Lib.hid hK
  clear hK hb0
  have hq1 : (rnP l ⟨0, false⟩ 1).a ≤ l.length := rnP_le hq0
  obtain ⟨s1, h⟩ : ∃ x, rnP l ⟨0, false⟩ 1 = x := ⟨_, rfl⟩
  rw [h] at e hq1
  have HS1 := Lib.hid h
  clear h
  obtain ⟨F, h⟩ : ∃ x, whoQ (leN (rnV l s1 1) : Nat) = x := ⟨_, rfl⟩
  rw [h] at e
  have HF := Lib.hid h
  clear h
  have hq2 : (rnP l s1 1).a ≤ l.length := rnP_le hq1
  obtain ⟨s2, h⟩ : ∃ x, rnP l s1 1 = x := ⟨_, rfl⟩
  rw [h] at e hq2
  have HS2 := Lib.hid h
  clear h
  obtain ⟨T, h⟩ : ∃ x, whoQ (leN (rnV l s2 1) : Nat) = x := ⟨_, rfl⟩
  rw [h] at e
  have HT := Lib.hid h
  clear h
  have hq3 : (rnP l s2 1).a ≤ l.length := rnP_le hq2
  obtain ⟨s3, h⟩ : ∃ x, rnP l s2 1 = x := ⟨_, rfl⟩
  rw [h] at e hq3
  have HS3 := Lib.hid h
  clear h
  obtain ⟨R4, h⟩ : ∃ x, leN (rnV l s3 6) = x := ⟨_, rfl⟩
  rw [h] at e
  have HR4 := Lib.hid h
  clear h
  obtain ⟨P4, h⟩ : ∃ x, leN (rnV l (rnP l s3 6) 1) = x := ⟨_, rfl⟩
  rw [h] at e
  have HP4 := Lib.hid h
  clear h
  have hq4 : (rnP l (rnP l s3 6) 1).a ≤ l.length := rnP_le (rnP_le hq3)
  obtain ⟨s4, h⟩ : ∃ x, rnP l (rnP l s3 6) 1 = x := ⟨_, rfl⟩
  rw [h] at e hq4
  have HS4 := Lib.hid h
  clear h
  obtain ⟨N5, h⟩ : ∃ x, leN (rnV l s4 6) = x := ⟨_, rfl⟩
  rw [h] at e
  have HN5 := Lib.hid h
  clear h
  have hq5 : (rnP l s4 6).a ≤ l.length := rnP_le hq4
  obtain ⟨s5, h⟩ : ∃ x, rnP l s4 6 = x := ⟨_, rfl⟩
  rw [h] at e hq5
  have HS5 := Lib.hid h
  clear h
  rw [e]
  clear e
  go_enter Tryd.func46, Tryd.ntmps46; go_wp2_with (first | ((with_reducible refine Hp.allo (ty := 34) H ?_); refine ⟨rfl, ?_⟩; refine ⟨_, z_look rfl, ?_⟩; (clear H; intro gr w1 H); (replace H := H.rot2); go_frame) | ((with_reducible refine Hp.ld H ?_); refine ⟨rfl, ?_⟩; refine ⟨c_look rfl, ?_⟩; refine ⟨_, _, rfl, ?_⟩; (first | refine ⟨_, _, _, .z, ?_⟩ | refine ⟨_, _, _, .s .z, ?_⟩ | refine ⟨_, _, _, .s (.s .z), ?_⟩ | refine ⟨_, _, _, .s (.s (.s .z)), ?_⟩); refine ⟨_, rfl, ?_⟩; go_frame) | ((with_reducible refine Hp.lda H ?_); refine ⟨rfl, by kernel_rfl, ?_⟩; refine ⟨_, s_look rfl, ?_⟩; refine ⟨_, rfl, ?_⟩; (first | refine ⟨_, _, _, .z, ?_⟩ | refine ⟨_, _, _, .s .z, ?_⟩ | refine ⟨_, _, _, .s (.s .z), ?_⟩ | refine ⟨_, _, _, .s (.s (.s .z)), ?_⟩); refine ⟨rfl, ?_⟩; go_frame) | ((with_reducible refine Hp.stv H ?_); refine ⟨rfl, ?_⟩; refine ⟨c_look rfl, ?_⟩; (first | refine ⟨.bool _, rfl, ?_⟩ | refine ⟨.int _ _, rfl, ?_⟩ | refine ⟨.string _, rfl, ?_⟩ | refine ⟨.slice _ _ _, rfl, ?_⟩ | refine ⟨.pointer _, rfl, ?_⟩); refine ⟨rfl, _, _, rfl, ?_⟩; (first | refine ⟨_, _, _, .z, ?_⟩ | refine ⟨_, _, _, .s .z, ?_⟩ | refine ⟨_, _, _, .s (.s .z), ?_⟩ | refine ⟨_, _, _, .s (.s (.s .z)), ?_⟩); refine ⟨⟨_, rfl⟩, ?_⟩; (clear H; intro w1 H; simp only [List.set] at H); go_frame) | ((with_reducible refine Hp.sta H ?_); refine ⟨rfl, ?_⟩; refine ⟨_, s_look rfl, ?_⟩; refine ⟨_, rfl, _, rfl, rfl, ?_⟩; (first | refine ⟨_, _, _, .z, ?_⟩ | refine ⟨_, _, _, .s .z, ?_⟩ | refine ⟨_, _, _, .s (.s .z), ?_⟩ | refine ⟨_, _, _, .s (.s (.s .z)), ?_⟩); refine ⟨rfl, rfl, ?_⟩; (clear H; intro w1 H; simp only [List.set] at H); go_frame) | ((with_reducible refine (qnum_v HS1.out HN1.out A c g w0 _ _ hr hc hm hq0 one_le6 H one_int).mono ?_); (rintro _ w1 ⟨rfl, HQ⟩; replace H := HQ; clear HQ)) | ((with_reducible refine (qwho_v HS2.out HF.out A c g w0 _ _ hr hc hm hq1 H).mono ?_); (rintro _ w1 ⟨rfl, HQ⟩; replace H := HQ; clear HQ)) | ((with_reducible refine (qwho_v HS3.out HT.out A c g w0 _ _ hr hc hm hq2 H).mono ?_); (rintro _ w1 ⟨rfl, HQ⟩; replace H := HQ; clear HQ)) | ((with_reducible refine (qbal_v HS4.out HR4.out HP4.out A c g w0 _ _ hr hc hm hq3 H).mono ?_); (rintro _ w1 ⟨rfl, HQ⟩; replace H := HQ; clear HQ)) | ((with_reducible refine Hp.str H ?_); refine ⟨rfl, ?_⟩; refine ⟨_, s_look rfl, ?_⟩; refine ⟨_, _, rfl, baC R4 P4, rfl, rfl, ?_⟩; (first | refine ⟨_, _, _, .z, ?_⟩ | refine ⟨_, _, _, .s .z, ?_⟩ | refine ⟨_, _, _, .s (.s .z), ?_⟩ | refine ⟨_, _, _, .s (.s (.s .z)), ?_⟩); refine ⟨rfl, mgC { mg0 with k := 3, fr := F, to := T, br := (R4 : Int), bp := (P4 : Int) }, rfl, _, rfl, Nat.le_of_ble_eq_true rfl, ?_⟩; (clear H; intro w1 H; simp only [List.set] at H); go_frame) | ((with_reducible refine (qnum_v HS5.out HN5.out A c g w0 _ _ hr hc hm hq4 six_le6 H six_int).mono ?_); (rintro _ w1 ⟨rfl, HQ⟩; replace H := HQ; clear HQ)))
  exact bodyPost_ret (v := .agg (mgC { mg0 with k := 3, fr := F, to := T, br := (R4 : Int), bp := (P4 : Int), ix := (N5 : Int) }).toArray) (results_c rfl rfl (H.var (by kernel_rfl) (t := 34) (cs := mgC { mg0 with k := 3, fr := F, to := T, br := (R4 : Int), bp := (P4 : Int), ix := (N5 : Int) }) (.s (.s .z)) s_Msg)) rfl ⟨none, 0, none, 0, [], .inl ⟨rfl, rfl, rfl, rfl⟩, rfl, H.finS⟩
set_option maxRecDepth 100000 in
set_option maxHeartbeats 4000000 in
theorem qmsg_5 (A : Option Addr) (c : Nat) (l : List UInt8) (g : Nat) (w0 w : World) (L : List Item) (hr : Rd w0 A l) (hc : l.length ≤ c) (hm : c ≤ maxLen) (H : Hp w0 w (rrI g A l.length c ⟨0, false⟩ :: L)) (hK : leN (rnV l ⟨0, false⟩ 1) = 5) :
    Calls Tryd.prog 46 #[.pointer (some ⟨g, 0, none⟩)] w (RetQM w0 g A c l (qAll l) L) := by
  have e : qAll l = ⟨rnP l (rnP l (rnP l (rnP l (rnP l ⟨0, false⟩ 1) 1) 1) 6) 1, { mg0 with k := 5, fr := whoQ (leN (rnV l (rnP l ⟨0, false⟩ 1) 1) : Nat), to := whoQ (leN (rnV l (rnP l (rnP l ⟨0, false⟩ 1) 1) 1) : Nat), br := (leN (rnV l (rnP l (rnP l (rnP l ⟨0, false⟩ 1) 1) 1) 6) : Nat), bp := (leN (rnV l (rnP l (rnP l (rnP l (rnP l ⟨0, false⟩ 1) 1) 1) 6) 1) : Nat) }, [], []⟩ := by
    have hl : qlets (qheadP l).t.k = [98] := by
      rw [show (qheadP l).t.k = 5 from by show ((leN (rnV l ⟨0, false⟩ 1) : Nat) : Int) = 5; rw [hK]; rfl]
      decide +kernel
    unfold qAll
    rw [hl]
    refine Eq.trans (b := ⟨rnP l (rnP l (rnP l (rnP l (rnP l ⟨0, false⟩ 1) 1) 1) 6) 1, { mg0 with k := ((leN (rnV l ⟨0, false⟩ 1) : Nat) : Int), fr := whoQ (leN (rnV l (rnP l ⟨0, false⟩ 1) 1) : Nat), to := whoQ (leN (rnV l (rnP l (rnP l ⟨0, false⟩ 1) 1) 1) : Nat), br := (leN (rnV l (rnP l (rnP l (rnP l ⟨0, false⟩ 1) 1) 1) 6) : Nat), bp := (leN (rnV l (rnP l (rnP l (rnP l (rnP l ⟨0, false⟩ 1) 1) 1) 6) 1) : Nat) }, [], []⟩) rfl ?_
    rw [hK]
    rfl
  have hq0 : (⟨0, false⟩ : Qs).a ≤ l.length := Nat.zero_le _
  have hb0 := leN_1 l ⟨0, false⟩
  have HN1 := Lib.hid hK
  clear hK hb0
  have hq1 : (rnP l ⟨0, false⟩ 1).a ≤ l.length := rnP_le hq0
  obtain ⟨s1, h⟩ : ∃ x, rnP l ⟨0, false⟩ 1 = x := ⟨_, rfl⟩
  rw [h] at e hq1
  have HS1 := Lib.hid h
  clear h
  obtain ⟨F, h⟩ : ∃ x, whoQ (leN (rnV l s1 1) : Nat) = x := ⟨_, rfl⟩
  rw [h] at e
  have HF := Lib.hid h
  clear h
  have hq2 : (rnP l s1 1).a ≤ l.length := rnP_le hq1
  obtain ⟨s2, h⟩ : ∃ x, rnP l s1 1 = x := ⟨_, rfl⟩
  rw [h] at e hq2
  have HS2 := Lib.hid h
  clear h
  obtain ⟨T, h⟩ : ∃ x, whoQ (leN (rnV l s2 1) : Nat) = x := ⟨_, rfl⟩
  rw [h] at e
  have HT := Lib.hid h
  clear h
  have hq3 : (rnP l s2 1).a ≤ l.length := rnP_le hq2
  obtain ⟨s3, h⟩ : ∃ x, rnP l s2 1 = x := ⟨_, rfl⟩
  rw [h] at e hq3
  have HS3 := Lib.hid h
  clear h
  obtain ⟨R4, h⟩ : ∃ x, leN (rnV l s3 6) = x := ⟨_, rfl⟩
  rw [h] at e
  have HR4 := Lib.hid h
  clear h
  obtain ⟨P4, h⟩ : ∃ x, leN (rnV l (rnP l s3 6) 1) = x := ⟨_, rfl⟩
  rw [h] at e
  have HP4 := Lib.hid h
  clear h
  have hq4 : (rnP l (rnP l s3 6) 1).a ≤ l.length := rnP_le (rnP_le hq3)
  obtain ⟨s4, h⟩ : ∃ x, rnP l (rnP l s3 6) 1 = x := ⟨_, rfl⟩
  rw [h] at e hq4
  have HS4 := Lib.hid h
  clear h
  rw [e]
  clear e
  go_enter Tryd.func46, Tryd.ntmps46; go_wp2_with (first | ((with_reducible refine Hp.allo (ty := 34) H ?_); refine ⟨rfl, ?_⟩; refine ⟨_, z_look rfl, ?_⟩; (clear H; intro gr w1 H); (replace H := H.rot2); go_frame) | ((with_reducible refine Hp.ld H ?_); refine ⟨rfl, ?_⟩; refine ⟨c_look rfl, ?_⟩; refine ⟨_, _, rfl, ?_⟩; (first | refine ⟨_, _, _, .z, ?_⟩ | refine ⟨_, _, _, .s .z, ?_⟩ | refine ⟨_, _, _, .s (.s .z), ?_⟩ | refine ⟨_, _, _, .s (.s (.s .z)), ?_⟩); refine ⟨_, rfl, ?_⟩; go_frame) | ((with_reducible refine Hp.lda H ?_); refine ⟨rfl, by kernel_rfl, ?_⟩; refine ⟨_, s_look rfl, ?_⟩; refine ⟨_, rfl, ?_⟩; (first | refine ⟨_, _, _, .z, ?_⟩ | refine ⟨_, _, _, .s .z, ?_⟩ | refine ⟨_, _, _, .s (.s .z), ?_⟩ | refine ⟨_, _, _, .s (.s (.s .z)), ?_⟩); refine ⟨rfl, ?_⟩; go_frame) | ((with_reducible refine Hp.stv H ?_); refine ⟨rfl, ?_⟩; refine ⟨c_look rfl, ?_⟩; (first | refine ⟨.bool _, rfl, ?_⟩ | refine ⟨.int _ _, rfl, ?_⟩ | refine ⟨.string _, rfl, ?_⟩ | refine ⟨.slice _ _ _, rfl, ?_⟩ | refine ⟨.pointer _, rfl, ?_⟩); refine ⟨rfl, _, _, rfl, ?_⟩; (first | refine ⟨_, _, _, .z, ?_⟩ | refine ⟨_, _, _, .s .z, ?_⟩ | refine ⟨_, _, _, .s (.s .z), ?_⟩ | refine ⟨_, _, _, .s (.s (.s .z)), ?_⟩); refine ⟨⟨_, rfl⟩, ?_⟩; (clear H; intro w1 H; simp only [List.set] at H); go_frame) | ((with_reducible refine Hp.sta H ?_); refine ⟨rfl, ?_⟩; refine ⟨_, s_look rfl, ?_⟩; refine ⟨_, rfl, _, rfl, rfl, ?_⟩; (first | refine ⟨_, _, _, .z, ?_⟩ | refine ⟨_, _, _, .s .z, ?_⟩ | refine ⟨_, _, _, .s (.s .z), ?_⟩ | refine ⟨_, _, _, .s (.s (.s .z)), ?_⟩); refine ⟨rfl, rfl, ?_⟩; (clear H; intro w1 H; simp only [List.set] at H); go_frame) | ((with_reducible refine (qnum_v HS1.out HN1.out A c g w0 _ _ hr hc hm hq0 one_le6 H one_int).mono ?_); (rintro _ w1 ⟨rfl, HQ⟩; replace H := HQ; clear HQ)) | ((with_reducible refine (qwho_v HS2.out HF.out A c g w0 _ _ hr hc hm hq1 H).mono ?_); (rintro _ w1 ⟨rfl, HQ⟩; replace H := HQ; clear HQ)) | ((with_reducible refine (qwho_v HS3.out HT.out A c g w0 _ _ hr hc hm hq2 H).mono ?_); (rintro _ w1 ⟨rfl, HQ⟩; replace H := HQ; clear HQ)) | ((with_reducible refine (qbal_v HS4.out HR4.out HP4.out A c g w0 _ _ hr hc hm hq3 H).mono ?_); (rintro _ w1 ⟨rfl, HQ⟩; replace H := HQ; clear HQ)) | ((with_reducible refine Hp.str H ?_); refine ⟨rfl, ?_⟩; refine ⟨_, s_look rfl, ?_⟩; refine ⟨_, _, rfl, baC R4 P4, rfl, rfl, ?_⟩; (first | refine ⟨_, _, _, .z, ?_⟩ | refine ⟨_, _, _, .s .z, ?_⟩ | refine ⟨_, _, _, .s (.s .z), ?_⟩ | refine ⟨_, _, _, .s (.s (.s .z)), ?_⟩); refine ⟨rfl, mgC { mg0 with k := 5, fr := F, to := T, br := (R4 : Int), bp := (P4 : Int) }, rfl, _, rfl, Nat.le_of_ble_eq_true rfl, ?_⟩; (clear H; intro w1 H; simp only [List.set] at H); go_frame))
  exact bodyPost_ret (v := .agg (mgC { mg0 with k := 5, fr := F, to := T, br := (R4 : Int), bp := (P4 : Int) }).toArray) (results_c rfl rfl (H.var (by kernel_rfl) (t := 34) (cs := mgC { mg0 with k := 5, fr := F, to := T, br := (R4 : Int), bp := (P4 : Int) }) (.s (.s .z)) s_Msg)) rfl ⟨none, 0, none, 0, [], .inl ⟨rfl, rfl, rfl, rfl⟩, rfl, H.finS⟩
set_option maxRecDepth 100000 in
set_option maxHeartbeats 4000000 in
theorem qmsg_6 (A : Option Addr) (c : Nat) (l : List UInt8) (g : Nat) (w0 w : World) (L : List Item) (hr : Rd w0 A l) (hc : l.length ≤ c) (hm : c ≤ maxLen) (H : Hp w0 w (rrI g A l.length c ⟨0, false⟩ :: L)) (hK : leN (rnV l ⟨0, false⟩ 1) = 6) :
    Calls Tryd.prog 46 #[.pointer (some ⟨g, 0, none⟩)] w (RetQM w0 g A c l (qAll l) L) := by
  have e : qAll l = ⟨eqP l (rnP l (rnP l (rnP l (rnP l (rnP l (rnP l (rnP l ⟨0, false⟩ 1) 1) 1) 6) 1) 6) 6), { mg0 with k := 6, fr := whoQ (leN (rnV l (rnP l ⟨0, false⟩ 1) 1) : Nat), to := whoQ (leN (rnV l (rnP l (rnP l ⟨0, false⟩ 1) 1) 1) : Nat), br := (leN (rnV l (rnP l (rnP l (rnP l ⟨0, false⟩ 1) 1) 1) 6) : Nat), bp := (leN (rnV l (rnP l (rnP l (rnP l (rnP l ⟨0, false⟩ 1) 1) 1) 6) 1) : Nat), ix := (leN (rnV l (rnP l (rnP l (rnP l (rnP l (rnP l ⟨0, false⟩ 1) 1) 1) 6) 1) 6) : Nat), cm := (leN (rnV l (rnP l (rnP l (rnP l (rnP l (rnP l (rnP l ⟨0, false⟩ 1) 1) 1) 6) 1) 6) 6) : Nat), e := eqV l (rnP l (rnP l (rnP l (rnP l (rnP l (rnP l (rnP l ⟨0, false⟩ 1) 1) 1) 6) 1) 6) 6) }, [], []⟩ := by
    have hl : qlets (qheadP l).t.k = [98, 105, 99, 101] := by
      rw [show (qheadP l).t.k = 6 from by show ((leN (rnV l ⟨0, false⟩ 1) : Nat) : Int) = 6; rw [hK]; rfl]
      decide +kernel
    unfold qAll
    rw [hl]
    refine Eq.trans (b := ⟨eqP l (rnP l (rnP l (rnP l (rnP l (rnP l (rnP l (rnP l ⟨0, false⟩ 1) 1) 1) 6) 1) 6) 6), { mg0 with k := ((leN (rnV l ⟨0, false⟩ 1) : Nat) : Int), fr := whoQ (leN (rnV l (rnP l ⟨0, false⟩ 1) 1) : Nat), to := whoQ (leN (rnV l (rnP l (rnP l ⟨0, false⟩ 1) 1) 1) : Nat), br := (leN (rnV l (rnP l (rnP l (rnP l ⟨0, false⟩ 1) 1) 1) 6) : Nat), bp := (leN (rnV l (rnP l (rnP l (rnP l (rnP l ⟨0, false⟩ 1) 1) 1) 6) 1) : Nat), ix := (leN (rnV l (rnP l (rnP l (rnP l (rnP l (rnP l ⟨0, false⟩ 1) 1) 1) 6) 1) 6) : Nat), cm := (leN (rnV l (rnP l (rnP l (rnP l (rnP l (rnP l (rnP l ⟨0, false⟩ 1) 1) 1) 6) 1) 6) 6) : Nat), e := eqV l (rnP l (rnP l (rnP l (rnP l (rnP l (rnP l (rnP l ⟨0, false⟩ 1) 1) 1) 6) 1) 6) 6) }, [], []⟩) rfl ?_
    rw [hK]
    rfl
  have hq0 : (⟨0, false⟩ : Qs).a ≤ l.length := Nat.zero_le _
  have hb0 := leN_1 l ⟨0, false⟩
  have HN1 := Lib.hid hK
  clear hK hb0
  have hq1 : (rnP l ⟨0, false⟩ 1).a ≤ l.length := rnP_le hq0
  obtain ⟨s1, h⟩ : ∃ x, rnP l ⟨0, false⟩ 1 = x := ⟨_, rfl⟩
  rw [h] at e hq1
  have HS1 := Lib.hid h
  clear h
  obtain ⟨F, h⟩ : ∃ x, whoQ (leN (rnV l s1 1) : Nat) = x := ⟨_, rfl⟩
  rw [h] at e
  have HF := Lib.hid h
  clear h
  have hq2 : (rnP l s1 1).a ≤ l.length := rnP_le hq1
  obtain ⟨s2, h⟩ : ∃ x, rnP l s1 1 = x := ⟨_, rfl⟩
  rw [h] at e hq2
  have HS2 := Lib.hid h
  clear h
  obtain ⟨T, h⟩ : ∃ x, whoQ (leN (rnV l s2 1) : Nat) = x := ⟨_, rfl⟩
  rw [h] at e
  have HT := Lib.hid h
  clear h
  have hq3 : (rnP l s2 1).a ≤ l.length := rnP_le hq2
  obtain ⟨s3, h⟩ : ∃ x, rnP l s2 1 = x := ⟨_, rfl⟩
  rw [h] at e hq3
  have HS3 := Lib.hid h
  clear h
  obtain ⟨R4, h⟩ : ∃ x, leN (rnV l s3 6) = x := ⟨_, rfl⟩
  rw [h] at e
  have HR4 := Lib.hid h
  clear h
  obtain ⟨P4, h⟩ : ∃ x, leN (rnV l (rnP l s3 6) 1) = x := ⟨_, rfl⟩
  rw [h] at e
  have HP4 := Lib.hid h
  clear h
  have hq4 : (rnP l (rnP l s3 6) 1).a ≤ l.length := rnP_le (rnP_le hq3)
  obtain ⟨s4, h⟩ : ∃ x, rnP l (rnP l s3 6) 1 = x := ⟨_, rfl⟩
  rw [h] at e hq4
  have HS4 := Lib.hid h
  clear h
  obtain ⟨N5, h⟩ : ∃ x, leN (rnV l s4 6) = x := ⟨_, rfl⟩
  rw [h] at e
  have HN5 := Lib.hid h
  clear h
  have hq5 : (rnP l s4 6).a ≤ l.length := rnP_le hq4
  obtain ⟨s5, h⟩ : ∃ x, rnP l s4 6 = x := ⟨_, rfl⟩
  rw [h] at e hq5
  have HS5 := Lib.hid h
  clear h
  obtain ⟨N6, h⟩ : ∃ x, leN (rnV l s5 6) = x := ⟨_, rfl⟩
  rw [h] at e
  have HN6 := Lib.hid h
  clear h
  have hq6 : (rnP l s5 6).a ≤ l.length := rnP_le hq5
  obtain ⟨s6, h⟩ : ∃ x, rnP l s5 6 = x := ⟨_, rfl⟩
  rw [h] at e hq6
  have HS6 := Lib.hid h
  clear h
  obtain ⟨E7, h⟩ : ∃ x, eqV l s6 = x := ⟨_, rfl⟩
  rw [h] at e
  have HE7 := Lib.hid h
  clear h
  have hq7 : (eqP l s6).a ≤ l.length := eqP_le hq6
  obtain ⟨s7, h⟩ : ∃ x, eqP l s6 = x := ⟨_, rfl⟩
  rw [h] at e hq7
  have HS7 := Lib.hid h
  clear h
  rw [e]
  clear e
  go_enter Tryd.func46, Tryd.ntmps46; go_wp2_with (first | ((with_reducible refine Hp.allo (ty := 34) H ?_); refine ⟨rfl, ?_⟩; refine ⟨_, z_look rfl, ?_⟩; (clear H; intro gr w1 H); (replace H := H.rot2); go_frame) | ((with_reducible refine Hp.ld H ?_); refine ⟨rfl, ?_⟩; refine ⟨c_look rfl, ?_⟩; refine ⟨_, _, rfl, ?_⟩; (first | refine ⟨_, _, _, .z, ?_⟩ | refine ⟨_, _, _, .s .z, ?_⟩ | refine ⟨_, _, _, .s (.s .z), ?_⟩ | refine ⟨_, _, _, .s (.s (.s .z)), ?_⟩); refine ⟨_, rfl, ?_⟩; go_frame) | ((with_reducible refine Hp.lda H ?_); refine ⟨rfl, by kernel_rfl, ?_⟩; refine ⟨_, s_look rfl, ?_⟩; refine ⟨_, rfl, ?_⟩; (first | refine ⟨_, _, _, .z, ?_⟩ | refine ⟨_, _, _, .s .z, ?_⟩ | refine ⟨_, _, _, .s (.s .z), ?_⟩ | refine ⟨_, _, _, .s (.s (.s .z)), ?_⟩); refine ⟨rfl, ?_⟩; go_frame) | ((with_reducible refine Hp.stv H ?_); refine ⟨rfl, ?_⟩; refine ⟨c_look rfl, ?_⟩; (first | refine ⟨.bool _, rfl, ?_⟩ | refine ⟨.int _ _, rfl, ?_⟩ | refine ⟨.string _, rfl, ?_⟩ | refine ⟨.slice _ _ _, rfl, ?_⟩ | refine ⟨.pointer _, rfl, ?_⟩); refine ⟨rfl, _, _, rfl, ?_⟩; (first | refine ⟨_, _, _, .z, ?_⟩ | refine ⟨_, _, _, .s .z, ?_⟩ | refine ⟨_, _, _, .s (.s .z), ?_⟩ | refine ⟨_, _, _, .s (.s (.s .z)), ?_⟩); refine ⟨⟨_, rfl⟩, ?_⟩; (clear H; intro w1 H; simp only [List.set] at H); go_frame) | ((with_reducible refine Hp.sta H ?_); refine ⟨rfl, ?_⟩; refine ⟨_, s_look rfl, ?_⟩; refine ⟨_, rfl, _, rfl, rfl, ?_⟩; (first | refine ⟨_, _, _, .z, ?_⟩ | refine ⟨_, _, _, .s .z, ?_⟩ | refine ⟨_, _, _, .s (.s .z), ?_⟩ | refine ⟨_, _, _, .s (.s (.s .z)), ?_⟩); refine ⟨rfl, rfl, ?_⟩; (clear H; intro w1 H; simp only [List.set] at H); go_frame) | ((with_reducible refine (qnum_v HS1.out HN1.out A c g w0 _ _ hr hc hm hq0 one_le6 H one_int).mono ?_); (rintro _ w1 ⟨rfl, HQ⟩; replace H := HQ; clear HQ)) | ((with_reducible refine (qwho_v HS2.out HF.out A c g w0 _ _ hr hc hm hq1 H).mono ?_); (rintro _ w1 ⟨rfl, HQ⟩; replace H := HQ; clear HQ)) | ((with_reducible refine (qwho_v HS3.out HT.out A c g w0 _ _ hr hc hm hq2 H).mono ?_); (rintro _ w1 ⟨rfl, HQ⟩; replace H := HQ; clear HQ)) | ((with_reducible refine (qbal_v HS4.out HR4.out HP4.out A c g w0 _ _ hr hc hm hq3 H).mono ?_); (rintro _ w1 ⟨rfl, HQ⟩; replace H := HQ; clear HQ)) | ((with_reducible refine Hp.str H ?_); refine ⟨rfl, ?_⟩; refine ⟨_, s_look rfl, ?_⟩; refine ⟨_, _, rfl, baC R4 P4, rfl, rfl, ?_⟩; (first | refine ⟨_, _, _, .z, ?_⟩ | refine ⟨_, _, _, .s .z, ?_⟩ | refine ⟨_, _, _, .s (.s .z), ?_⟩ | refine ⟨_, _, _, .s (.s (.s .z)), ?_⟩); refine ⟨rfl, mgC { mg0 with k := 6, fr := F, to := T, br := (R4 : Int), bp := (P4 : Int) }, rfl, _, rfl, Nat.le_of_ble_eq_true rfl, ?_⟩; (clear H; intro w1 H; simp only [List.set] at H); go_frame) | ((with_reducible refine (qnum_v HS5.out HN5.out A c g w0 _ _ hr hc hm hq4 six_le6 H six_int).mono ?_); (rintro _ w1 ⟨rfl, HQ⟩; replace H := HQ; clear HQ)) | ((with_reducible refine (qnum_v HS6.out HN6.out A c g w0 _ _ hr hc hm hq5 six_le6 H six_int).mono ?_); (rintro _ w1 ⟨rfl, HQ⟩; replace H := HQ; clear HQ)) | ((with_reducible refine (qent_v HS7.out HE7.out A c g w0 _ _ hr hc hm H).mono ?_); (rintro _ w1 ⟨rfl, HQ⟩; replace H := HQ; clear HQ)) | ((with_reducible refine Hp.str H ?_); refine ⟨rfl, ?_⟩; refine ⟨_, s_look rfl, ?_⟩; refine ⟨_, _, rfl, enC E7, rfl, rfl, ?_⟩; (first | refine ⟨_, _, _, .z, ?_⟩ | refine ⟨_, _, _, .s .z, ?_⟩ | refine ⟨_, _, _, .s (.s .z), ?_⟩ | refine ⟨_, _, _, .s (.s (.s .z)), ?_⟩); refine ⟨rfl, mgC { mg0 with k := 6, fr := F, to := T, br := (R4 : Int), bp := (P4 : Int), ix := (N5 : Int), cm := (N6 : Int), e := E7 }, rfl, _, rfl, Nat.le_of_ble_eq_true rfl, ?_⟩; (clear H; intro w1 H; simp only [List.set] at H); go_frame))
  exact bodyPost_ret (v := .agg (mgC { mg0 with k := 6, fr := F, to := T, br := (R4 : Int), bp := (P4 : Int), ix := (N5 : Int), cm := (N6 : Int), e := E7 }).toArray) (results_c rfl rfl (H.var (by kernel_rfl) (t := 34) (cs := mgC { mg0 with k := 6, fr := F, to := T, br := (R4 : Int), bp := (P4 : Int), ix := (N5 : Int), cm := (N6 : Int), e := E7 }) (.s (.s .z)) s_Msg)) rfl ⟨none, 0, none, 0, [], .inl ⟨rfl, rfl, rfl, rfl⟩, rfl, H.finS⟩
set_option maxRecDepth 100000 in
set_option maxHeartbeats 4000000 in
theorem qmsg_7 (A : Option Addr) (c : Nat) (l : List UInt8) (g : Nat) (w0 w : World) (L : List Item) (hr : Rd w0 A l) (hc : l.length ≤ c) (hm : c ≤ maxLen) (H : Hp w0 w (rrI g A l.length c ⟨0, false⟩ :: L)) (hK : leN (rnV l ⟨0, false⟩ 1) = 7) :
    Calls Tryd.prog 46 #[.pointer (some ⟨g, 0, none⟩)] w (RetQM w0 g A c l (qAll l) L) := by
  have e : qAll l = ⟨rnP l (rnP l (rnP l (rnP l (rnP l (rnP l ⟨0, false⟩ 1) 1) 1) 6) 1) 6, { mg0 with k := 7, fr := whoQ (leN (rnV l (rnP l ⟨0, false⟩ 1) 1) : Nat), to := whoQ (leN (rnV l (rnP l (rnP l ⟨0, false⟩ 1) 1) 1) : Nat), br := (leN (rnV l (rnP l (rnP l (rnP l ⟨0, false⟩ 1) 1) 1) 6) : Nat), bp := (leN (rnV l (rnP l (rnP l (rnP l (rnP l ⟨0, false⟩ 1) 1) 1) 6) 1) : Nat), ix := (leN (rnV l (rnP l (rnP l (rnP l (rnP l (rnP l ⟨0, false⟩ 1) 1) 1) 6) 1) 6) : Nat) }, [], []⟩ := by
    have hl : qlets (qheadP l).t.k = [98, 105] := by
      rw [show (qheadP l).t.k = 7 from by show ((leN (rnV l ⟨0, false⟩ 1) : Nat) : Int) = 7; rw [hK]; rfl]
      decide +kernel
    unfold qAll
    rw [hl]
    refine Eq.trans (b := ⟨rnP l (rnP l (rnP l (rnP l (rnP l (rnP l ⟨0, false⟩ 1) 1) 1) 6) 1) 6, { mg0 with k := ((leN (rnV l ⟨0, false⟩ 1) : Nat) : Int), fr := whoQ (leN (rnV l (rnP l ⟨0, false⟩ 1) 1) : Nat), to := whoQ (leN (rnV l (rnP l (rnP l ⟨0, false⟩ 1) 1) 1) : Nat), br := (leN (rnV l (rnP l (rnP l (rnP l ⟨0, false⟩ 1) 1) 1) 6) : Nat), bp := (leN (rnV l (rnP l (rnP l (rnP l (rnP l ⟨0, false⟩ 1) 1) 1) 6) 1) : Nat), ix := (leN (rnV l (rnP l (rnP l (rnP l (rnP l (rnP l ⟨0, false⟩ 1) 1) 1) 6) 1) 6) : Nat) }, [], []⟩) rfl ?_
    rw [hK]
    rfl
  have hq0 : (⟨0, false⟩ : Qs).a ≤ l.length := Nat.zero_le _
  have hb0 := leN_1 l ⟨0, false⟩
  have HN1 := Lib.hid hK
  clear hK hb0
  have hq1 : (rnP l ⟨0, false⟩ 1).a ≤ l.length := rnP_le hq0
  obtain ⟨s1, h⟩ : ∃ x, rnP l ⟨0, false⟩ 1 = x := ⟨_, rfl⟩
  rw [h] at e hq1
  have HS1 := Lib.hid h
  clear h
  obtain ⟨F, h⟩ : ∃ x, whoQ (leN (rnV l s1 1) : Nat) = x := ⟨_, rfl⟩
  rw [h] at e
  have HF := Lib.hid h
  clear h
  have hq2 : (rnP l s1 1).a ≤ l.length := rnP_le hq1
  obtain ⟨s2, h⟩ : ∃ x, rnP l s1 1 = x := ⟨_, rfl⟩
  rw [h] at e hq2
  have HS2 := Lib.hid h
  clear h
  obtain ⟨T, h⟩ : ∃ x, whoQ (leN (rnV l s2 1) : Nat) = x := ⟨_, rfl⟩
  rw [h] at e
  have HT := Lib.hid h
  clear h
  have hq3 : (rnP l s2 1).a ≤ l.length := rnP_le hq2
  obtain ⟨s3, h⟩ : ∃ x, rnP l s2 1 = x := ⟨_, rfl⟩
  rw [h] at e hq3
  have HS3 := Lib.hid h
  clear h
  obtain ⟨R4, h⟩ : ∃ x, leN (rnV l s3 6) = x := ⟨_, rfl⟩
  rw [h] at e
  have HR4 := Lib.hid h
  clear h
  obtain ⟨P4, h⟩ : ∃ x, leN (rnV l (rnP l s3 6) 1) = x := ⟨_, rfl⟩
  rw [h] at e
  have HP4 := Lib.hid h
  clear h
  have hq4 : (rnP l (rnP l s3 6) 1).a ≤ l.length := rnP_le (rnP_le hq3)
  obtain ⟨s4, h⟩ : ∃ x, rnP l (rnP l s3 6) 1 = x := ⟨_, rfl⟩
  rw [h] at e hq4
  have HS4 := Lib.hid h
  clear h
  obtain ⟨N5, h⟩ : ∃ x, leN (rnV l s4 6) = x := ⟨_, rfl⟩
  rw [h] at e
  have HN5 := Lib.hid h
  clear h
  have hq5 : (rnP l s4 6).a ≤ l.length := rnP_le hq4
  obtain ⟨s5, h⟩ : ∃ x, rnP l s4 6 = x := ⟨_, rfl⟩
  rw [h] at e hq5
  have HS5 := Lib.hid h
  clear h
  rw [e]
  clear e
  go_enter Tryd.func46, Tryd.ntmps46; go_wp2_with (first | ((with_reducible refine Hp.allo (ty := 34) H ?_); refine ⟨rfl, ?_⟩; refine ⟨_, z_look rfl, ?_⟩; (clear H; intro gr w1 H); (replace H := H.rot2); go_frame) | ((with_reducible refine Hp.ld H ?_); refine ⟨rfl, ?_⟩; refine ⟨c_look rfl, ?_⟩; refine ⟨_, _, rfl, ?_⟩; (first | refine ⟨_, _, _, .z, ?_⟩ | refine ⟨_, _, _, .s .z, ?_⟩ | refine ⟨_, _, _, .s (.s .z), ?_⟩ | refine ⟨_, _, _, .s (.s (.s .z)), ?_⟩); refine ⟨_, rfl, ?_⟩; go_frame) | ((with_reducible refine Hp.lda H ?_); refine ⟨rfl, by kernel_rfl, ?_⟩; refine ⟨_, s_look rfl, ?_⟩; refine ⟨_, rfl, ?_⟩; (first | refine ⟨_, _, _, .z, ?_⟩ | refine ⟨_, _, _, .s .z, ?_⟩ | refine ⟨_, _, _, .s (.s .z), ?_⟩ | refine ⟨_, _, _, .s (.s (.s .z)), ?_⟩); refine ⟨rfl, ?_⟩; go_frame) | ((with_reducible refine Hp.stv H ?_); refine ⟨rfl, ?_⟩; refine ⟨c_look rfl, ?_⟩; (first | refine ⟨.bool _, rfl, ?_⟩ | refine ⟨.int _ _, rfl, ?_⟩ | refine ⟨.string _, rfl, ?_⟩ | refine ⟨.slice _ _ _, rfl, ?_⟩ | refine ⟨.pointer _, rfl, ?_⟩); refine ⟨rfl, _, _, rfl, ?_⟩; (first | refine ⟨_, _, _, .z, ?_⟩ | refine ⟨_, _, _, .s .z, ?_⟩ | refine ⟨_, _, _, .s (.s .z), ?_⟩ | refine ⟨_, _, _, .s (.s (.s .z)), ?_⟩); refine ⟨⟨_, rfl⟩, ?_⟩; (clear H; intro w1 H; simp only [List.set] at H); go_frame) | ((with_reducible refine Hp.sta H ?_); refine ⟨rfl, ?_⟩; refine ⟨_, s_look rfl, ?_⟩; refine ⟨_, rfl, _, rfl, rfl, ?_⟩; (first | refine ⟨_, _, _, .z, ?_⟩ | refine ⟨_, _, _, .s .z, ?_⟩ | refine ⟨_, _, _, .s (.s .z), ?_⟩ | refine ⟨_, _, _, .s (.s (.s .z)), ?_⟩); refine ⟨rfl, rfl, ?_⟩; (clear H; intro w1 H; simp only [List.set] at H); go_frame) | ((with_reducible refine (qnum_v HS1.out HN1.out A c g w0 _ _ hr hc hm hq0 one_le6 H one_int).mono ?_); (rintro _ w1 ⟨rfl, HQ⟩; replace H := HQ; clear HQ)) | ((with_reducible refine (qwho_v HS2.out HF.out A c g w0 _ _ hr hc hm hq1 H).mono ?_); (rintro _ w1 ⟨rfl, HQ⟩; replace H := HQ; clear HQ)) | ((with_reducible refine (qwho_v HS3.out HT.out A c g w0 _ _ hr hc hm hq2 H).mono ?_); (rintro _ w1 ⟨rfl, HQ⟩; replace H := HQ; clear HQ)) | ((with_reducible refine (qbal_v HS4.out HR4.out HP4.out A c g w0 _ _ hr hc hm hq3 H).mono ?_); (rintro _ w1 ⟨rfl, HQ⟩; replace H := HQ; clear HQ)) | ((with_reducible refine Hp.str H ?_); refine ⟨rfl, ?_⟩; refine ⟨_, s_look rfl, ?_⟩; refine ⟨_, _, rfl, baC R4 P4, rfl, rfl, ?_⟩; (first | refine ⟨_, _, _, .z, ?_⟩ | refine ⟨_, _, _, .s .z, ?_⟩ | refine ⟨_, _, _, .s (.s .z), ?_⟩ | refine ⟨_, _, _, .s (.s (.s .z)), ?_⟩); refine ⟨rfl, mgC { mg0 with k := 7, fr := F, to := T, br := (R4 : Int), bp := (P4 : Int) }, rfl, _, rfl, Nat.le_of_ble_eq_true rfl, ?_⟩; (clear H; intro w1 H; simp only [List.set] at H); go_frame) | ((with_reducible refine (qnum_v HS5.out HN5.out A c g w0 _ _ hr hc hm hq4 six_le6 H six_int).mono ?_); (rintro _ w1 ⟨rfl, HQ⟩; replace H := HQ; clear HQ)))
  exact bodyPost_ret (v := .agg (mgC { mg0 with k := 7, fr := F, to := T, br := (R4 : Int), bp := (P4 : Int), ix := (N5 : Int) }).toArray) (results_c rfl rfl (H.var (by kernel_rfl) (t := 34) (cs := mgC { mg0 with k := 7, fr := F, to := T, br := (R4 : Int), bp := (P4 : Int), ix := (N5 : Int) }) (.s (.s .z)) s_Msg)) rfl ⟨none, 0, none, 0, [], .inl ⟨rfl, rfl, rfl, rfl⟩, rfl, H.finS⟩
set_option maxRecDepth 100000 in
set_option maxHeartbeats 4000000 in
theorem qmsg_8 (A : Option Addr) (c : Nat) (l : List UInt8) (g : Nat) (w0 w : World) (L : List Item) (hr : Rd w0 A l) (hc : l.length ≤ c) (hm : c ≤ maxLen) (H : Hp w0 w (rrI g A l.length c ⟨0, false⟩ :: L)) (hK : leN (rnV l ⟨0, false⟩ 1) = 8) :
    Calls Tryd.prog 46 #[.pointer (some ⟨g, 0, none⟩)] w (RetQM w0 g A c l (qAll l) L) := by
  have e : qAll l = ⟨rnP l (rnP l (rnP l (rnP l (rnP l (rnP l (rnP l ⟨0, false⟩ 1) 1) 1) 6) 1) 6) 6, { mg0 with k := 8, fr := whoQ (leN (rnV l (rnP l ⟨0, false⟩ 1) 1) : Nat), to := whoQ (leN (rnV l (rnP l (rnP l ⟨0, false⟩ 1) 1) 1) : Nat), br := (leN (rnV l (rnP l (rnP l (rnP l ⟨0, false⟩ 1) 1) 1) 6) : Nat), bp := (leN (rnV l (rnP l (rnP l (rnP l (rnP l ⟨0, false⟩ 1) 1) 1) 6) 1) : Nat), cm := (leN (rnV l (rnP l (rnP l (rnP l (rnP l (rnP l ⟨0, false⟩ 1) 1) 1) 6) 1) 6) : Nat), nc := (leN (rnV l (rnP l (rnP l (rnP l (rnP l (rnP l (rnP l ⟨0, false⟩ 1) 1) 1) 6) 1) 6) 6) : Nat) }, [], []⟩ := by
    have hl : qlets (qheadP l).t.k = [98, 99, 110] := by
      rw [show (qheadP l).t.k = 8 from by show ((leN (rnV l ⟨0, false⟩ 1) : Nat) : Int) = 8; rw [hK]; rfl]
      decide +kernel
    unfold qAll
    rw [hl]
    refine Eq.trans (b := ⟨rnP l (rnP l (rnP l (rnP l (rnP l (rnP l (rnP l ⟨0, false⟩ 1) 1) 1) 6) 1) 6) 6, { mg0 with k := ((leN (rnV l ⟨0, false⟩ 1) : Nat) : Int), fr := whoQ (leN (rnV l (rnP l ⟨0, false⟩ 1) 1) : Nat), to := whoQ (leN (rnV l (rnP l (rnP l ⟨0, false⟩ 1) 1) 1) : Nat), br := (leN (rnV l (rnP l (rnP l (rnP l ⟨0, false⟩ 1) 1) 1) 6) : Nat), bp := (leN (rnV l (rnP l (rnP l (rnP l (rnP l ⟨0, false⟩ 1) 1) 1) 6) 1) : Nat), cm := (leN (rnV l (rnP l (rnP l (rnP l (rnP l (rnP l ⟨0, false⟩ 1) 1) 1) 6) 1) 6) : Nat), nc := (leN (rnV l (rnP l (rnP l (rnP l (rnP l (rnP l (rnP l ⟨0, false⟩ 1) 1) 1) 6) 1) 6) 6) : Nat) }, [], []⟩) rfl ?_
    rw [hK]
    rfl
  have hq0 : (⟨0, false⟩ : Qs).a ≤ l.length := Nat.zero_le _
  have hb0 := leN_1 l ⟨0, false⟩
  have HN1 := Lib.hid hK
  clear hK hb0
  have hq1 : (rnP l ⟨0, false⟩ 1).a ≤ l.length := rnP_le hq0
  obtain ⟨s1, h⟩ : ∃ x, rnP l ⟨0, false⟩ 1 = x := ⟨_, rfl⟩
  rw [h] at e hq1
  have HS1 := Lib.hid h
  clear h
  obtain ⟨F, h⟩ : ∃ x, whoQ (leN (rnV l s1 1) : Nat) = x := ⟨_, rfl⟩
  rw [h] at e
  have HF := Lib.hid h
  clear h
  have hq2 : (rnP l s1 1).a ≤ l.length := rnP_le hq1
  obtain ⟨s2, h⟩ : ∃ x, rnP l s1 1 = x := ⟨_, rfl⟩
  rw [h] at e hq2
  have HS2 := Lib.hid h
  clear h
  obtain ⟨T, h⟩ : ∃ x, whoQ (leN (rnV l s2 1) : Nat) = x := ⟨_, rfl⟩
  rw [h] at e
  have HT := Lib.hid h
  clear h
  have hq3 : (rnP l s2 1).a ≤ l.length := rnP_le hq2
  obtain ⟨s3, h⟩ : ∃ x, rnP l s2 1 = x := ⟨_, rfl⟩
  rw [h] at e hq3
  have HS3 := Lib.hid h
  clear h
  obtain ⟨R4, h⟩ : ∃ x, leN (rnV l s3 6) = x := ⟨_, rfl⟩
  rw [h] at e
  have HR4 := Lib.hid h
  clear h
  obtain ⟨P4, h⟩ : ∃ x, leN (rnV l (rnP l s3 6) 1) = x := ⟨_, rfl⟩
  rw [h] at e
  have HP4 := Lib.hid h
  clear h
  have hq4 : (rnP l (rnP l s3 6) 1).a ≤ l.length := rnP_le (rnP_le hq3)
  obtain ⟨s4, h⟩ : ∃ x, rnP l (rnP l s3 6) 1 = x := ⟨_, rfl⟩
  rw [h] at e hq4
  have HS4 := Lib.hid h
  clear h
  obtain ⟨N5, h⟩ : ∃ x, leN (rnV l s4 6) = x := ⟨_, rfl⟩
  rw [h] at e
  have HN5 := Lib.hid h
  clear h
  have hq5 : (rnP l s4 6).a ≤ l.length := rnP_le hq4
  obtain ⟨s5, h⟩ : ∃ x, rnP l s4 6 = x := ⟨_, rfl⟩
  rw [h] at e hq5
  have HS5 := Lib.hid h
  clear h
  obtain ⟨N6, h⟩ : ∃ x, leN (rnV l s5 6) = x := ⟨_, rfl⟩
  rw [h] at e
  have HN6 := Lib.hid h
  clear h
  have hq6 : (rnP l s5 6).a ≤ l.length := rnP_le hq5
  obtain ⟨s6, h⟩ : ∃ x, rnP l s5 6 = x := ⟨_, rfl⟩
  rw [h] at e hq6
  have HS6 := Lib.hid h
  clear h
  rw [e]
  clear e
  go_enter Tryd.func46, Tryd.ntmps46; go_wp2_with (first | ((with_reducible refine Hp.allo (ty := 34) H ?_); refine ⟨rfl, ?_⟩; refine ⟨_, z_look rfl, ?_⟩; (clear H; intro gr w1 H); (replace H := H.rot2); go_frame) | ((with_reducible refine Hp.ld H ?_); refine ⟨rfl, ?_⟩; refine ⟨c_look rfl, ?_⟩; refine ⟨_, _, rfl, ?_⟩; (first | refine ⟨_, _, _, .z, ?_⟩ | refine ⟨_, _, _, .s .z, ?_⟩ | refine ⟨_, _, _, .s (.s .z), ?_⟩ | refine ⟨_, _, _, .s (.s (.s .z)), ?_⟩); refine ⟨_, rfl, ?_⟩; go_frame) | ((with_reducible refine Hp.lda H ?_); refine ⟨rfl, by kernel_rfl, ?_⟩; refine ⟨_, s_look rfl, ?_⟩; refine ⟨_, rfl, ?_⟩; (first | refine ⟨_, _, _, .z, ?_⟩ | refine ⟨_, _, _, .s .z, ?_⟩ | refine ⟨_, _, _, .s (.s .z), ?_⟩ | refine ⟨_, _, _, .s (.s (.s .z)), ?_⟩); refine ⟨rfl, ?_⟩; go_frame) | ((with_reducible refine Hp.stv H ?_); refine ⟨rfl, ?_⟩; refine ⟨c_look rfl, ?_⟩; (first | refine ⟨.bool _, rfl, ?_⟩ | refine ⟨.int _ _, rfl, ?_⟩ | refine ⟨.string _, rfl, ?_⟩ | refine ⟨.slice _ _ _, rfl, ?_⟩ | refine ⟨.pointer _, rfl, ?_⟩); refine ⟨rfl, _, _, rfl, ?_⟩; (first | refine ⟨_, _, _, .z, ?_⟩ | refine ⟨_, _, _, .s .z, ?_⟩ | refine ⟨_, _, _, .s (.s .z), ?_⟩ | refine ⟨_, _, _, .s (.s (.s .z)), ?_⟩); refine ⟨⟨_, rfl⟩, ?_⟩; (clear H; intro w1 H; simp only [List.set] at H); go_frame) | ((with_reducible refine Hp.sta H ?_); refine ⟨rfl, ?_⟩; refine ⟨_, s_look rfl, ?_⟩; refine ⟨_, rfl, _, rfl, rfl, ?_⟩; (first | refine ⟨_, _, _, .z, ?_⟩ | refine ⟨_, _, _, .s .z, ?_⟩ | refine ⟨_, _, _, .s (.s .z), ?_⟩ | refine ⟨_, _, _, .s (.s (.s .z)), ?_⟩); refine ⟨rfl, rfl, ?_⟩; (clear H; intro w1 H; simp only [List.set] at H); go_frame) | ((with_reducible refine (qnum_v HS1.out HN1.out A c g w0 _ _ hr hc hm hq0 one_le6 H one_int).mono ?_); (rintro _ w1 ⟨rfl, HQ⟩; replace H := HQ; clear HQ)) | ((with_reducible refine (qwho_v HS2.out HF.out A c g w0 _ _ hr hc hm hq1 H).mono ?_); (rintro _ w1 ⟨rfl, HQ⟩; replace H := HQ; clear HQ)) | ((with_reducible refine (qwho_v HS3.out HT.out A c g w0 _ _ hr hc hm hq2 H).mono ?_); (rintro _ w1 ⟨rfl, HQ⟩; replace H := HQ; clear HQ)) | ((with_reducible refine (qbal_v HS4.out HR4.out HP4.out A c g w0 _ _ hr hc hm hq3 H).mono ?_); (rintro _ w1 ⟨rfl, HQ⟩; replace H := HQ; clear HQ)) | ((with_reducible refine Hp.str H ?_); refine ⟨rfl, ?_⟩; refine ⟨_, s_look rfl, ?_⟩; refine ⟨_, _, rfl, baC R4 P4, rfl, rfl, ?_⟩; (first | refine ⟨_, _, _, .z, ?_⟩ | refine ⟨_, _, _, .s .z, ?_⟩ | refine ⟨_, _, _, .s (.s .z), ?_⟩ | refine ⟨_, _, _, .s (.s (.s .z)), ?_⟩); refine ⟨rfl, mgC { mg0 with k := 8, fr := F, to := T, br := (R4 : Int), bp := (P4 : Int) }, rfl, _, rfl, Nat.le_of_ble_eq_true rfl, ?_⟩; (clear H; intro w1 H; simp only [List.set] at H); go_frame) | ((with_reducible refine (qnum_v HS5.out HN5.out A c g w0 _ _ hr hc hm hq4 six_le6 H six_int).mono ?_); (rintro _ w1 ⟨rfl, HQ⟩; replace H := HQ; clear HQ)) | ((with_reducible refine (qnum_v HS6.out HN6.out A c g w0 _ _ hr hc hm hq5 six_le6 H six_int).mono ?_); (rintro _ w1 ⟨rfl, HQ⟩; replace H := HQ; clear HQ)))
  exact bodyPost_ret (v := .agg (mgC { mg0 with k := 8, fr := F, to := T, br := (R4 : Int), bp := (P4 : Int), cm := (N5 : Int), nc := (N6 : Int) }).toArray) (results_c rfl rfl (H.var (by kernel_rfl) (t := 34) (cs := mgC { mg0 with k := 8, fr := F, to := T, br := (R4 : Int), bp := (P4 : Int), cm := (N5 : Int), nc := (N6 : Int) }) (.s (.s .z)) s_Msg)) rfl ⟨none, 0, none, 0, [], .inl ⟨rfl, rfl, rfl, rfl⟩, rfl, H.finS⟩
set_option maxRecDepth 100000 in
set_option maxHeartbeats 4000000 in
theorem qmsg_9 (A : Option Addr) (c : Nat) (l : List UInt8) (g : Nat) (w0 w : World) (L : List Item) (hr : Rd w0 A l) (hc : l.length ≤ c) (hm : c ≤ maxLen) (H : Hp w0 w (rrI g A l.length c ⟨0, false⟩ :: L)) (hK : leN (rnV l ⟨0, false⟩ 1) = 9) :
    Calls Tryd.prog 46 #[.pointer (some ⟨g, 0, none⟩)] w (RetQM w0 g A c l (qAll l) L) := by
  have e : qAll l = ⟨rnP l (rnP l (rnP l (rnP l (rnP l (rnP l ⟨0, false⟩ 1) 1) 1) 6) 1) 6, { mg0 with k := 9, fr := whoQ (leN (rnV l (rnP l ⟨0, false⟩ 1) 1) : Nat), to := whoQ (leN (rnV l (rnP l (rnP l ⟨0, false⟩ 1) 1) 1) : Nat), br := (leN (rnV l (rnP l (rnP l (rnP l ⟨0, false⟩ 1) 1) 1) 6) : Nat), bp := (leN (rnV l (rnP l (rnP l (rnP l (rnP l ⟨0, false⟩ 1) 1) 1) 6) 1) : Nat), nc := (leN (rnV l (rnP l (rnP l (rnP l (rnP l (rnP l ⟨0, false⟩ 1) 1) 1) 6) 1) 6) : Nat) }, [], []⟩ := by
    have hl : qlets (qheadP l).t.k = [98, 110] := by
      rw [show (qheadP l).t.k = 9 from by show ((leN (rnV l ⟨0, false⟩ 1) : Nat) : Int) = 9; rw [hK]; rfl]
      decide +kernel
    unfold qAll
    rw [hl]
    refine Eq.trans (b := ⟨rnP l (rnP l (rnP l (rnP l (rnP l (rnP l ⟨0, false⟩ 1) 1) 1) 6) 1) 6, { mg0 with k := ((leN (rnV l ⟨0, false⟩ 1) : Nat) : Int), fr := whoQ (leN (rnV l (rnP l ⟨0, false⟩ 1) 1) : Nat), to := whoQ (leN (rnV l (rnP l (rnP l ⟨0, false⟩ 1) 1) 1) : Nat), br := (leN (rnV l (rnP l (rnP l (rnP l ⟨0, false⟩ 1) 1) 1) 6) : Nat), bp := (leN (rnV l (rnP l (rnP l (rnP l (rnP l ⟨0, false⟩ 1) 1) 1) 6) 1) : Nat), nc := (leN (rnV l (rnP l (rnP l (rnP l (rnP l (rnP l ⟨0, false⟩ 1) 1) 1) 6) 1) 6) : Nat) }, [], []⟩) rfl ?_
    rw [hK]
    rfl
  have hq0 : (⟨0, false⟩ : Qs).a ≤ l.length := Nat.zero_le _
  have hb0 := leN_1 l ⟨0, false⟩
  have HN1 := Lib.hid hK
  clear hK hb0
  have hq1 : (rnP l ⟨0, false⟩ 1).a ≤ l.length := rnP_le hq0
  obtain ⟨s1, h⟩ : ∃ x, rnP l ⟨0, false⟩ 1 = x := ⟨_, rfl⟩
  rw [h] at e hq1
  have HS1 := Lib.hid h
  clear h
  obtain ⟨F, h⟩ : ∃ x, whoQ (leN (rnV l s1 1) : Nat) = x := ⟨_, rfl⟩
  rw [h] at e
  have HF := Lib.hid h
  clear h
  have hq2 : (rnP l s1 1).a ≤ l.length := rnP_le hq1
  obtain ⟨s2, h⟩ : ∃ x, rnP l s1 1 = x := ⟨_, rfl⟩
  rw [h] at e hq2
  have HS2 := Lib.hid h
  clear h
  obtain ⟨T, h⟩ : ∃ x, whoQ (leN (rnV l s2 1) : Nat) = x := ⟨_, rfl⟩
  rw [h] at e
  have HT := Lib.hid h
  clear h
  have hq3 : (rnP l s2 1).a ≤ l.length := rnP_le hq2
  obtain ⟨s3, h⟩ : ∃ x, rnP l s2 1 = x := ⟨_, rfl⟩
  rw [h] at e hq3
  have HS3 := Lib.hid h
  clear h
  obtain ⟨R4, h⟩ : ∃ x, leN (rnV l s3 6) = x := ⟨_, rfl⟩
  rw [h] at e
  have HR4 := Lib.hid h
  clear h
  obtain ⟨P4, h⟩ : ∃ x, leN (rnV l (rnP l s3 6) 1) = x := ⟨_, rfl⟩
  rw [h] at e
  have HP4 := Lib.hid h
  clear h
  have hq4 : (rnP l (rnP l s3 6) 1).a ≤ l.length := rnP_le (rnP_le hq3)
  obtain ⟨s4, h⟩ : ∃ x, rnP l (rnP l s3 6) 1 = x := ⟨_, rfl⟩
  rw [h] at e hq4
  have HS4 := Lib.hid h
  clear h
  obtain ⟨N5, h⟩ : ∃ x, leN (rnV l s4 6) = x := ⟨_, rfl⟩
  rw [h] at e
  have HN5 := Lib.hid h
  clear h
  have hq5 : (rnP l s4 6).a ≤ l.length := rnP_le hq4
  obtain ⟨s5, h⟩ : ∃ x, rnP l s4 6 = x := ⟨_, rfl⟩
  rw [h] at e hq5
  have HS5 := Lib.hid h
  clear h
  rw [e]
  clear e
  go_enter Tryd.func46, Tryd.ntmps46; go_wp2_with (first | ((with_reducible refine Hp.allo (ty := 34) H ?_); refine ⟨rfl, ?_⟩; refine ⟨_, z_look rfl, ?_⟩; (clear H; intro gr w1 H); (replace H := H.rot2); go_frame) | ((with_reducible refine Hp.ld H ?_); refine ⟨rfl, ?_⟩; refine ⟨c_look rfl, ?_⟩; refine ⟨_, _, rfl, ?_⟩; (first | refine ⟨_, _, _, .z, ?_⟩ | refine ⟨_, _, _, .s .z, ?_⟩ | refine ⟨_, _, _, .s (.s .z), ?_⟩ | refine ⟨_, _, _, .s (.s (.s .z)), ?_⟩); refine ⟨_, rfl, ?_⟩; go_frame) | ((with_reducible refine Hp.lda H ?_); refine ⟨rfl, by kernel_rfl, ?_⟩; refine ⟨_, s_look rfl, ?_⟩; refine ⟨_, rfl, ?_⟩; (first | refine ⟨_, _, _, .z, ?_⟩ | refine ⟨_, _, _, .s .z, ?_⟩ | refine ⟨_, _, _, .s (.s .z), ?_⟩ | refine ⟨_, _, _, .s (.s (.s .z)), ?_⟩); refine ⟨rfl, ?_⟩; go_frame) | ((with_reducible refine Hp.stv H ?_); refine ⟨rfl, ?_⟩; refine ⟨c_look rfl, ?_⟩; (first | refine ⟨.bool _, rfl, ?_⟩ | refine ⟨.int _ _, rfl, ?_⟩ | refine ⟨.string _, rfl, ?_⟩ | refine ⟨.slice _ _ _, rfl, ?_⟩ | refine ⟨.pointer _, rfl, ?_⟩); refine ⟨rfl, _, _, rfl, ?_⟩; (first | refine ⟨_, _, _, .z, ?_⟩ | refine ⟨_, _, _, .s .z, ?_⟩ | refine ⟨_, _, _, .s (.s .z), ?_⟩ | refine ⟨_, _, _, .s (.s (.s .z)), ?_⟩); refine ⟨⟨_, rfl⟩, ?_⟩; (clear H; intro w1 H; simp only [List.set] at H); go_frame) | ((with_reducible refine Hp.sta H ?_); refine ⟨rfl, ?_⟩; refine ⟨_, s_look rfl, ?_⟩; refine ⟨_, rfl, _, rfl, rfl, ?_⟩; (first | refine ⟨_, _, _, .z, ?_⟩ | refine ⟨_, _, _, .s .z, ?_⟩ | refine ⟨_, _, _, .s (.s .z), ?_⟩ | refine ⟨_, _, _, .s (.s (.s .z)), ?_⟩); refine ⟨rfl, rfl, ?_⟩; (clear H; intro w1 H; simp only [List.set] at H); go_frame) | ((with_reducible refine (qnum_v HS1.out HN1.out A c g w0 _ _ hr hc hm hq0 one_le6 H one_int).mono ?_); (rintro _ w1 ⟨rfl, HQ⟩; replace H := HQ; clear HQ)) | ((with_reducible refine (qwho_v HS2.out HF.out A c g w0 _ _ hr hc hm hq1 H).mono ?_); (rintro _ w1 ⟨rfl, HQ⟩; replace H := HQ; clear HQ)) | ((with_reducible refine (qwho_v HS3.out HT.out A c g w0 _ _ hr hc hm hq2 H).mono ?_); (rintro _ w1 ⟨rfl, HQ⟩; replace H := HQ; clear HQ)) | ((with_reducible refine (qbal_v HS4.out HR4.out HP4.out A c g w0 _ _ hr hc hm hq3 H).mono ?_); (rintro _ w1 ⟨rfl, HQ⟩; replace H := HQ; clear HQ)) | ((with_reducible refine Hp.str H ?_); refine ⟨rfl, ?_⟩; refine ⟨_, s_look rfl, ?_⟩; refine ⟨_, _, rfl, baC R4 P4, rfl, rfl, ?_⟩; (first | refine ⟨_, _, _, .z, ?_⟩ | refine ⟨_, _, _, .s .z, ?_⟩ | refine ⟨_, _, _, .s (.s .z), ?_⟩ | refine ⟨_, _, _, .s (.s (.s .z)), ?_⟩); refine ⟨rfl, mgC { mg0 with k := 9, fr := F, to := T, br := (R4 : Int), bp := (P4 : Int) }, rfl, _, rfl, Nat.le_of_ble_eq_true rfl, ?_⟩; (clear H; intro w1 H; simp only [List.set] at H); go_frame) | ((with_reducible refine (qnum_v HS5.out HN5.out A c g w0 _ _ hr hc hm hq4 six_le6 H six_int).mono ?_); (rintro _ w1 ⟨rfl, HQ⟩; replace H := HQ; clear HQ)))
  exact bodyPost_ret (v := .agg (mgC { mg0 with k := 9, fr := F, to := T, br := (R4 : Int), bp := (P4 : Int), nc := (N5 : Int) }).toArray) (results_c rfl rfl (H.var (by kernel_rfl) (t := 34) (cs := mgC { mg0 with k := 9, fr := F, to := T, br := (R4 : Int), bp := (P4 : Int), nc := (N5 : Int) }) (.s (.s .z)) s_Msg)) rfl ⟨none, 0, none, 0, [], .inl ⟨rfl, rfl, rfl, rfl⟩, rfl, H.finS⟩
set_option maxRecDepth 100000 in
set_option maxHeartbeats 4000000 in
theorem qmsg_10 (A : Option Addr) (c : Nat) (l : List UInt8) (g : Nat) (w0 w : World) (L : List Item) (hr : Rd w0 A l) (hc : l.length ≤ c) (hm : c ≤ maxLen) (H : Hp w0 w (rrI g A l.length c ⟨0, false⟩ :: L)) (hK : leN (rnV l ⟨0, false⟩ 1) = 10) :
    Calls Tryd.prog 46 #[.pointer (some ⟨g, 0, none⟩)] w (RetQM w0 g A c l (qAll l) L) := by
  have e : qAll l = ⟨rnP l (rnP l (rnP l (rnP l ⟨0, false⟩ 1) 1) 1) 6, { mg0 with k := 10, fr := whoQ (leN (rnV l (rnP l ⟨0, false⟩ 1) 1) : Nat), to := whoQ (leN (rnV l (rnP l (rnP l ⟨0, false⟩ 1) 1) 1) : Nat), ix := (leN (rnV l (rnP l (rnP l (rnP l ⟨0, false⟩ 1) 1) 1) 6) : Nat) }, [], []⟩ := by
    have hl : qlets (qheadP l).t.k = [105] := by
      rw [show (qheadP l).t.k = 10 from by show ((leN (rnV l ⟨0, false⟩ 1) : Nat) : Int) = 10; rw [hK]; rfl]
      decide +kernel
    unfold qAll
    rw [hl]
    refine Eq.trans (b := ⟨rnP l (rnP l (rnP l (rnP l ⟨0, false⟩ 1) 1) 1) 6, { mg0 with k := ((leN (rnV l ⟨0, false⟩ 1) : Nat) : Int), fr := whoQ (leN (rnV l (rnP l ⟨0, false⟩ 1) 1) : Nat), to := whoQ (leN (rnV l (rnP l (rnP l ⟨0, false⟩ 1) 1) 1) : Nat), ix := (leN (rnV l (rnP l (rnP l (rnP l ⟨0, false⟩ 1) 1) 1) 6) : Nat) }, [], []⟩) rfl ?_
    rw [hK]
    rfl
  have hq0 : (⟨0, false⟩ : Qs).a ≤ l.length := Nat.zero_le _
  have hb0 := leN_1 l ⟨0, false⟩
  have HN1 := Lib.hid hK
  clear hK hb0
  have hq1 : (rnP l ⟨0, false⟩ 1).a ≤ l.length := rnP_le hq0
  obtain ⟨s1, h⟩ : ∃ x, rnP l ⟨0, false⟩ 1 = x := ⟨_, rfl⟩
  rw [h] at e hq1
  have HS1 := Lib.hid h
  clear h
  obtain ⟨F, h⟩ : ∃ x, whoQ (leN (rnV l s1 1) : Nat) = x := ⟨_, rfl⟩
  rw [h] at e
  have HF := Lib.hid h
  clear h
  have hq2 : (rnP l s1 1).a ≤ l.length := rnP_le hq1
  obtain ⟨s2, h⟩ : ∃ x, rnP l s1 1 = x := ⟨_, rfl⟩
  rw [h] at e hq2
  have HS2 := Lib.hid h
  clear h
  obtain ⟨T, h⟩ : ∃ x, whoQ (leN (rnV l s2 1) : Nat) = x := ⟨_, rfl⟩
  rw [h] at e
  have HT := Lib.hid h
  clear h
  have hq3 : (rnP l s2 1).a ≤ l.length := rnP_le hq2
  obtain ⟨s3, h⟩ : ∃ x, rnP l s2 1 = x := ⟨_, rfl⟩
  rw [h] at e hq3
  have HS3 := Lib.hid h
  clear h
  obtain ⟨N4, h⟩ : ∃ x, leN (rnV l s3 6) = x := ⟨_, rfl⟩
  rw [h] at e
  have HN4 := Lib.hid h
  clear h
  have hq4 : (rnP l s3 6).a ≤ l.length := rnP_le hq3
  obtain ⟨s4, h⟩ : ∃ x, rnP l s3 6 = x := ⟨_, rfl⟩
  rw [h] at e hq4
  have HS4 := Lib.hid h
  clear h
  rw [e]
  clear e
  go_enter Tryd.func46, Tryd.ntmps46; go_wp2_with (first | ((with_reducible refine Hp.allo (ty := 34) H ?_); refine ⟨rfl, ?_⟩; refine ⟨_, z_look rfl, ?_⟩; (clear H; intro gr w1 H); (replace H := H.rot2); go_frame) | ((with_reducible refine Hp.ld H ?_); refine ⟨rfl, ?_⟩; refine ⟨c_look rfl, ?_⟩; refine ⟨_, _, rfl, ?_⟩; (first | refine ⟨_, _, _, .z, ?_⟩ | refine ⟨_, _, _, .s .z, ?_⟩ | refine ⟨_, _, _, .s (.s .z), ?_⟩ | refine ⟨_, _, _, .s (.s (.s .z)), ?_⟩); refine ⟨_, rfl, ?_⟩; go_frame) | ((with_reducible refine Hp.lda H ?_); refine ⟨rfl, by kernel_rfl, ?_⟩; refine ⟨_, s_look rfl, ?_⟩; refine ⟨_, rfl, ?_⟩; (first | refine ⟨_, _, _, .z, ?_⟩ | refine ⟨_, _, _, .s .z, ?_⟩ | refine ⟨_, _, _, .s (.s .z), ?_⟩ | refine ⟨_, _, _, .s (.s (.s .z)), ?_⟩); refine ⟨rfl, ?_⟩; go_frame) | ((with_reducible refine Hp.stv H ?_); refine ⟨rfl, ?_⟩; refine ⟨c_look rfl, ?_⟩; (first | refine ⟨.bool _, rfl, ?_⟩ | refine ⟨.int _ _, rfl, ?_⟩ | refine ⟨.string _, rfl, ?_⟩ | refine ⟨.slice _ _ _, rfl, ?_⟩ | refine ⟨.pointer _, rfl, ?_⟩); refine ⟨rfl, _, _, rfl, ?_⟩; (first | refine ⟨_, _, _, .z, ?_⟩ | refine ⟨_, _, _, .s .z, ?_⟩ | refine ⟨_, _, _, .s (.s .z), ?_⟩ | refine ⟨_, _, _, .s (.s (.s .z)), ?_⟩); refine ⟨⟨_, rfl⟩, ?_⟩; (clear H; intro w1 H; simp only [List.set] at H); go_frame) | ((with_reducible refine Hp.sta H ?_); refine ⟨rfl, ?_⟩; refine ⟨_, s_look rfl, ?_⟩; refine ⟨_, rfl, _, rfl, rfl, ?_⟩; (first | refine ⟨_, _, _, .z, ?_⟩ | refine ⟨_, _, _, .s .z, ?_⟩ | refine ⟨_, _, _, .s (.s .z), ?_⟩ | refine ⟨_, _, _, .s (.s (.s .z)), ?_⟩); refine ⟨rfl, rfl, ?_⟩; (clear H; intro w1 H; simp only [List.set] at H); go_frame) | ((with_reducible refine (qnum_v HS1.out HN1.out A c g w0 _ _ hr hc hm hq0 one_le6 H one_int).mono ?_); (rintro _ w1 ⟨rfl, HQ⟩; replace H := HQ; clear HQ)) | ((with_reducible refine (qwho_v HS2.out HF.out A c g w0 _ _ hr hc hm hq1 H).mono ?_); (rintro _ w1 ⟨rfl, HQ⟩; replace H := HQ; clear HQ)) | ((with_reducible refine (qwho_v HS3.out HT.out A c g w0 _ _ hr hc hm hq2 H).mono ?_); (rintro _ w1 ⟨rfl, HQ⟩; replace H := HQ; clear HQ)) | ((with_reducible refine (qnum_v HS4.out HN4.out A c g w0 _ _ hr hc hm hq3 six_le6 H six_int).mono ?_); (rintro _ w1 ⟨rfl, HQ⟩; replace H := HQ; clear HQ)))
  exact bodyPost_ret (v := .agg (mgC { mg0 with k := 10, fr := F, to := T, ix := (N4 : Int) }).toArray) (results_c rfl rfl (H.var (by kernel_rfl) (t := 34) (cs := mgC { mg0 with k := 10, fr := F, to := T, ix := (N4 : Int) }) (.s (.s .z)) s_Msg)) rfl ⟨none, 0, none, 0, [], .inl ⟨rfl, rfl, rfl, rfl⟩, rfl, H.finS⟩
set_option maxRecDepth 100000 in
set_option maxHeartbeats 4000000 in
theorem qmsg_11 (A : Option Addr) (c : Nat) (l : List UInt8) (g : Nat) (w0 w : World) (L : List Item) (hr : Rd w0 A l) (hc : l.length ≤ c) (hm : c ≤ maxLen) (H : Hp w0 w (rrI g A l.length c ⟨0, false⟩ :: L)) (hK : leN (rnV l ⟨0, false⟩ 1) = 11) :
    Calls Tryd.prog 46 #[.pointer (some ⟨g, 0, none⟩)] w (RetQM w0 g A c l (qAll l) L) := by
  have e : qAll l = ⟨eqP l (rnP l (rnP l (rnP l (rnP l (rnP l (rnP l ⟨0, false⟩ 1) 1) 1) 6) 1) 6), { mg0 with k := 11, fr := whoQ (leN (rnV l (rnP l ⟨0, false⟩ 1) 1) : Nat), to := whoQ (leN (rnV l (rnP l (rnP l ⟨0, false⟩ 1) 1) 1) : Nat), br := (leN (rnV l (rnP l (rnP l (rnP l ⟨0, false⟩ 1) 1) 1) 6) : Nat), bp := (leN (rnV l (rnP l (rnP l (rnP l (rnP l ⟨0, false⟩ 1) 1) 1) 6) 1) : Nat), ix := (leN (rnV l (rnP l (rnP l (rnP l (rnP l (rnP l ⟨0, false⟩ 1) 1) 1) 6) 1) 6) : Nat), e := eqV l (rnP l (rnP l (rnP l (rnP l (rnP l (rnP l ⟨0, false⟩ 1) 1) 1) 6) 1) 6) }, [], []⟩ := by
    have hl : qlets (qheadP l).t.k = [98, 105, 101] := by
      rw [show (qheadP l).t.k = 11 from by show ((leN (rnV l ⟨0, false⟩ 1) : Nat) : Int) = 11; rw [hK]; rfl]
      decide +kernel
    unfold qAll
    rw [hl]
    refine Eq.trans (b := ⟨eqP l (rnP l (rnP l (rnP l (rnP l (rnP l (rnP l ⟨0, false⟩ 1) 1) 1) 6) 1) 6), { mg0 with k := ((leN (rnV l ⟨0, false⟩ 1) : Nat) : Int), fr := whoQ (leN (rnV l (rnP l ⟨0, false⟩ 1) 1) : Nat), to := whoQ (leN (rnV l (rnP l (rnP l ⟨0, false⟩ 1) 1) 1) : Nat), br := (leN (rnV l (rnP l (rnP l (rnP l ⟨0, false⟩ 1) 1) 1) 6) : Nat), bp := (leN (rnV l (rnP l (rnP l (rnP l (rnP l ⟨0, false⟩ 1) 1) 1) 6) 1) : Nat), ix := (leN (rnV l (rnP l (rnP l (rnP l (rnP l (rnP l ⟨0, false⟩ 1) 1) 1) 6) 1) 6) : Nat), e := eqV l (rnP l (rnP l (rnP l (rnP l (rnP l (rnP l ⟨0, false⟩ 1) 1) 1) 6) 1) 6) }, [], []⟩) rfl ?_
    rw [hK]
    rfl
  have hq0 : (⟨0, false⟩ : Qs).a ≤ l.length := Nat.zero_le _
  have hb0 := leN_1 l ⟨0, false⟩
  have HN1 := Lib.hid hK
  clear hK hb0
  have hq1 : (rnP l ⟨0, false⟩ 1).a ≤ l.length := rnP_le hq0
  obtain ⟨s1, h⟩ : ∃ x, rnP l ⟨0, false⟩ 1 = x := ⟨_, rfl⟩
  rw [h] at e hq1
  have HS1 := Lib.hid h
  clear h
  obtain ⟨F, h⟩ : ∃ x, whoQ (leN (rnV l s1 1) : Nat) = x := ⟨_, rfl⟩
  rw [h] at e
  have HF := Lib.hid h
  clear h
  have hq2 : (rnP l s1 1).a ≤ l.length := rnP_le hq1
  obtain ⟨s2, h⟩ : ∃ x, rnP l s1 1 = x := ⟨_, rfl⟩
  rw [h] at e hq2
  have HS2 := Lib.hid h
  clear h
  obtain ⟨T, h⟩ : ∃ x, whoQ (leN (rnV l s2 1) : Nat) = x := ⟨_, rfl⟩
  rw [h] at e
  have HT := Lib.hid h
  clear h
  have hq3 : (rnP l s2 1).a ≤ l.length := rnP_le hq2
  obtain ⟨s3, h⟩ : ∃ x, rnP l s2 1 = x := ⟨_, rfl⟩
  rw [h] at e hq3
  have HS3 := Lib.hid h
  clear h
  obtain ⟨R4, h⟩ : ∃ x, leN (rnV l s3 6) = x := ⟨_, rfl⟩
  rw [h] at e
  have HR4 := Lib.hid h
  clear h
  obtain ⟨P4, h⟩ : ∃ x, leN (rnV l (rnP l s3 6) 1) = x := ⟨_, rfl⟩
  rw [h] at e
  have HP4 := Lib.hid h
  clear h
  have hq4 : (rnP l (rnP l s3 6) 1).a ≤ l.length := rnP_le (rnP_le hq3)
  obtain ⟨s4, h⟩ : ∃ x, rnP l (rnP l s3 6) 1 = x := ⟨_, rfl⟩
  rw [h] at e hq4
  have HS4 := Lib.hid h
  clear h
  obtain ⟨N5, h⟩ : ∃ x, leN (rnV l s4 6) = x := ⟨_, rfl⟩
  rw [h] at e
  have HN5 := Lib.hid h
  clear h
  have hq5 : (rnP l s4 6).a ≤ l.length := rnP_le hq4
  obtain ⟨s5, h⟩ : ∃ x, rnP l s4 6 = x := ⟨_, rfl⟩
  rw [h] at e hq5
  have HS5 := Lib.hid h
  clear h
  obtain ⟨E6, h⟩ : ∃ x, eqV l s5 = x := ⟨_, rfl⟩
  rw [h] at e
  have HE6 := Lib.hid h
  clear h
  have hq6 : (eqP l s5).a ≤ l.length := eqP_le hq5
  obtain ⟨s6, h⟩ : ∃ x, eqP l s5 = x := ⟨_, rfl⟩
  rw [h] at e hq6
  have HS6 := Lib.hid h
  clear h
  rw [e]
  clear e
  go_enter Tryd.func46, Tryd.ntmps46; go_wp2_with (first | ((with_reducible refine Hp.allo (ty := 34) H ?_); refine ⟨rfl, ?_⟩; refine ⟨_, z_look rfl, ?_⟩; (clear H; intro gr w1 H); (replace H := H.rot2); go_frame) | ((with_reducible refine Hp.ld H ?_); refine ⟨rfl, ?_⟩; refine ⟨c_look rfl, ?_⟩; refine ⟨_, _, rfl, ?_⟩; (first | refine ⟨_, _, _, .z, ?_⟩ | refine ⟨_, _, _, .s .z, ?_⟩ | refine ⟨_, _, _, .s (.s .z), ?_⟩ | refine ⟨_, _, _, .s (.s (.s .z)), ?_⟩); refine ⟨_, rfl, ?_⟩; go_frame) | ((with_reducible refine Hp.lda H ?_); refine ⟨rfl, by kernel_rfl, ?_⟩; refine ⟨_, s_look rfl, ?_⟩; refine ⟨_, rfl, ?_⟩; (first | refine ⟨_, _, _, .z, ?_⟩ | refine ⟨_, _, _, .s .z, ?_⟩ | refine ⟨_, _, _, .s (.s .z), ?_⟩ | refine ⟨_, _, _, .s (.s (.s .z)), ?_⟩); refine ⟨rfl, ?_⟩; go_frame) | ((with_reducible refine Hp.stv H ?_); refine ⟨rfl, ?_⟩; refine ⟨c_look rfl, ?_⟩; (first | refine ⟨.bool _, rfl, ?_⟩ | refine ⟨.int _ _, rfl, ?_⟩ | refine ⟨.string _, rfl, ?_⟩ | refine ⟨.slice _ _ _, rfl, ?_⟩ | refine ⟨.pointer _, rfl, ?_⟩); refine ⟨rfl, _, _, rfl, ?_⟩; (first | refine ⟨_, _, _, .z, ?_⟩ | refine ⟨_, _, _, .s .z, ?_⟩ | refine ⟨_, _, _, .s (.s .z), ?_⟩ | refine ⟨_, _, _, .s (.s (.s .z)), ?_⟩); refine ⟨⟨_, rfl⟩, ?_⟩; (clear H; intro w1 H; simp only [List.set] at H); go_frame) | ((with_reducible refine Hp.sta H ?_); refine ⟨rfl, ?_⟩; refine ⟨_, s_look rfl, ?_⟩; refine ⟨_, rfl, _, rfl, rfl, ?_⟩; (first | refine ⟨_, _, _, .z, ?_⟩ | refine ⟨_, _, _, .s .z, ?_⟩ | refine ⟨_, _, _, .s (.s .z), ?_⟩ | refine ⟨_, _, _, .s (.s (.s .z)), ?_⟩); refine ⟨rfl, rfl, ?_⟩; (clear H; intro w1 H; simp only [List.set] at H); go_frame) | ((with_reducible refine (qnum_v HS1.out HN1.out A c g w0 _ _ hr hc hm hq0 one_le6 H one_int).mono ?_); (rintro _ w1 ⟨rfl, HQ⟩; replace H := HQ; clear HQ)) | ((with_reducible refine (qwho_v HS2.out HF.out A c g w0 _ _ hr hc hm hq1 H).mono ?_); (rintro _ w1 ⟨rfl, HQ⟩; replace H := HQ; clear HQ)) | ((with_reducible refine (qwho_v HS3.out HT.out A c g w0 _ _ hr hc hm hq2 H).mono ?_); (rintro _ w1 ⟨rfl, HQ⟩; replace H := HQ; clear HQ)) | ((with_reducible refine (qbal_v HS4.out HR4.out HP4.out A c g w0 _ _ hr hc hm hq3 H).mono ?_); (rintro _ w1 ⟨rfl, HQ⟩; replace H := HQ; clear HQ)) | ((with_reducible refine Hp.str H ?_); refine ⟨rfl, ?_⟩; refine ⟨_, s_look rfl, ?_⟩; refine ⟨_, _, rfl, baC R4 P4, rfl, rfl, ?_⟩; (first | refine ⟨_, _, _, .z, ?_⟩ | refine ⟨_, _, _, .s .z, ?_⟩ | refine ⟨_, _, _, .s (.s .z), ?_⟩ | refine ⟨_, _, _, .s (.s (.s .z)), ?_⟩); refine ⟨rfl, mgC { mg0 with k := 11, fr := F, to := T, br := (R4 : Int), bp := (P4 : Int) }, rfl, _, rfl, Nat.le_of_ble_eq_true rfl, ?_⟩; (clear H; intro w1 H; simp only [List.set] at H); go_frame) | ((with_reducible refine (qnum_v HS5.out HN5.out A c g w0 _ _ hr hc hm hq4 six_le6 H six_int).mono ?_); (rintro _ w1 ⟨rfl, HQ⟩; replace H := HQ; clear HQ)) | ((with_reducible refine (qent_v HS6.out HE6.out A c g w0 _ _ hr hc hm H).mono ?_); (rintro _ w1 ⟨rfl, HQ⟩; replace H := HQ; clear HQ)) | ((with_reducible refine Hp.str H ?_); refine ⟨rfl, ?_⟩; refine ⟨_, s_look rfl, ?_⟩; refine ⟨_, _, rfl, enC E6, rfl, rfl, ?_⟩; (first | refine ⟨_, _, _, .z, ?_⟩ | refine ⟨_, _, _, .s .z, ?_⟩ | refine ⟨_, _, _, .s (.s .z), ?_⟩ | refine ⟨_, _, _, .s (.s (.s .z)), ?_⟩); refine ⟨rfl, mgC { mg0 with k := 11, fr := F, to := T, br := (R4 : Int), bp := (P4 : Int), ix := (N5 : Int), e := E6 }, rfl, _, rfl, Nat.le_of_ble_eq_true rfl, ?_⟩; (clear H; intro w1 H; simp only [List.set] at H); go_frame))
  exact bodyPost_ret (v := .agg (mgC { mg0 with k := 11, fr := F, to := T, br := (R4 : Int), bp := (P4 : Int), ix := (N5 : Int), e := E6 }).toArray) (results_c rfl rfl (H.var (by kernel_rfl) (t := 34) (cs := mgC { mg0 with k := 11, fr := F, to := T, br := (R4 : Int), bp := (P4 : Int), ix := (N5 : Int), e := E6 }) (.s (.s .z)) s_Msg)) rfl ⟨none, 0, none, 0, [], .inl ⟨rfl, rfl, rfl, rfl⟩, rfl, H.finS⟩
set_option maxRecDepth 100000 in
set_option maxHeartbeats 4000000 in
theorem qmsg_12 (A : Option Addr) (c : Nat) (l : List UInt8) (g : Nat) (w0 w : World) (L : List Item) (hr : Rd w0 A l) (hc : l.length ≤ c) (hm : c ≤ maxLen) (H : Hp w0 w (rrI g A l.length c ⟨0, false⟩ :: L)) (hK : leN (rnV l ⟨0, false⟩ 1) = 12) :
    Calls Tryd.prog 46 #[.pointer (some ⟨g, 0, none⟩)] w (RetQM w0 g A c l (qAll l) L) := by
  have e : qAll l = ⟨rnP l (rnP l (rnP l (rnP l (rnP l ⟨0, false⟩ 1) 1) 1) 6) 1, { mg0 with k := 12, fr := whoQ (leN (rnV l (rnP l ⟨0, false⟩ 1) 1) : Nat), to := whoQ (leN (rnV l (rnP l (rnP l ⟨0, false⟩ 1) 1) 1) : Nat), ix := (leN (rnV l (rnP l (rnP l (rnP l ⟨0, false⟩ 1) 1) 1) 6) : Nat), ck := (leN (rnV l (rnP l (rnP l (rnP l (rnP l ⟨0, false⟩ 1) 1) 1) 6) 1) : Nat) }, [], []⟩ := by
    have hl : qlets (qheadP l).t.k = [122, 107] := by
      rw [show (qheadP l).t.k = 12 from by show ((leN (rnV l ⟨0, false⟩ 1) : Nat) : Int) = 12; rw [hK]; rfl]
      decide +kernel
    unfold qAll
    rw [hl]
    refine Eq.trans (b := ⟨rnP l (rnP l (rnP l (rnP l (rnP l ⟨0, false⟩ 1) 1) 1) 6) 1, { mg0 with k := ((leN (rnV l ⟨0, false⟩ 1) : Nat) : Int), fr := whoQ (leN (rnV l (rnP l ⟨0, false⟩ 1) 1) : Nat), to := whoQ (leN (rnV l (rnP l (rnP l ⟨0, false⟩ 1) 1) 1) : Nat), ix := (leN (rnV l (rnP l (rnP l (rnP l ⟨0, false⟩ 1) 1) 1) 6) : Nat), ck := (leN (rnV l (rnP l (rnP l (rnP l (rnP l ⟨0, false⟩ 1) 1) 1) 6) 1) : Nat) }, [], []⟩) rfl ?_
    rw [hK]
    rfl
  have hq0 : (⟨0, false⟩ : Qs).a ≤ l.length := Nat.zero_le _
  have hb0 := leN_1 l ⟨0, false⟩
  have HN1 := Lib.hid hK
  clear hK hb0
  have hq1 : (rnP l ⟨0, false⟩ 1).a ≤ l.length := rnP_le hq0
  obtain ⟨s1, h⟩ : ∃ x, rnP l ⟨0, false⟩ 1 = x := ⟨_, rfl⟩
  rw [h] at e hq1
  have HS1 := Lib.hid h
  clear h
  obtain ⟨F, h⟩ : ∃ x, whoQ (leN (rnV l s1 1) : Nat) = x := ⟨_, rfl⟩
  rw [h] at e
  have HF := Lib.hid h
  clear h
  have hq2 : (rnP l s1 1).a ≤ l.length := rnP_le hq1
  obtain ⟨s2, h⟩ : ∃ x, rnP l s1 1 = x := ⟨_, rfl⟩
  rw [h] at e hq2
  have HS2 := Lib.hid h
  clear h
  obtain ⟨T, h⟩ : ∃ x, whoQ (leN (rnV l s2 1) : Nat) = x := ⟨_, rfl⟩
  rw [h] at e
  have HT := Lib.hid h
  clear h
  have hq3 : (rnP l s2 1).a ≤ l.length := rnP_le hq2
  obtain ⟨s3, h⟩ : ∃ x, rnP l s2 1 = x := ⟨_, rfl⟩
  rw [h] at e hq3
  have HS3 := Lib.hid h
  clear h
  obtain ⟨N4, h⟩ : ∃ x, leN (rnV l s3 6) = x := ⟨_, rfl⟩
  rw [h] at e
  have HN4 := Lib.hid h
  clear h
  have hq4 : (rnP l s3 6).a ≤ l.length := rnP_le hq3
  obtain ⟨s4, h⟩ : ∃ x, rnP l s3 6 = x := ⟨_, rfl⟩
  rw [h] at e hq4
  have HS4 := Lib.hid h
  clear h
  have hb5 := leN_1 l s4
  obtain ⟨N5, h⟩ : ∃ x, leN (rnV l s4 1) = x := ⟨_, rfl⟩
  rw [h] at e hb5
  have HN5 := Lib.hid h
  clear h
  have hw5 := u8_nat hb5
  clear hb5
  have hq5 : (rnP l s4 1).a ≤ l.length := rnP_le hq4
  obtain ⟨s5, h⟩ : ∃ x, rnP l s4 1 = x := ⟨_, rfl⟩
  rw [h] at e hq5
  have HS5 := Lib.hid h
  clear h
  rw [e]
  clear e
  go_enter Tryd.func46, Tryd.ntmps46; go_wp2_with (first | ((with_reducible refine Hp.allo (ty := 34) H ?_); refine ⟨rfl, ?_⟩; refine ⟨_, z_look rfl, ?_⟩; (clear H; intro gr w1 H); (replace H := H.rot2); go_frame) | ((with_reducible refine Hp.ld H ?_); refine ⟨rfl, ?_⟩; refine ⟨c_look rfl, ?_⟩; refine ⟨_, _, rfl, ?_⟩; (first | refine ⟨_, _, _, .z, ?_⟩ | refine ⟨_, _, _, .s .z, ?_⟩ | refine ⟨_, _, _, .s (.s .z), ?_⟩ | refine ⟨_, _, _, .s (.s (.s .z)), ?_⟩); refine ⟨_, rfl, ?_⟩; go_frame) | ((with_reducible refine Hp.lda H ?_); refine ⟨rfl, by kernel_rfl, ?_⟩; refine ⟨_, s_look rfl, ?_⟩; refine ⟨_, rfl, ?_⟩; (first | refine ⟨_, _, _, .z, ?_⟩ | refine ⟨_, _, _, .s .z, ?_⟩ | refine ⟨_, _, _, .s (.s .z), ?_⟩ | refine ⟨_, _, _, .s (.s (.s .z)), ?_⟩); refine ⟨rfl, ?_⟩; go_frame) | ((with_reducible refine Hp.stv H ?_); refine ⟨rfl, ?_⟩; refine ⟨c_look rfl, ?_⟩; (first | refine ⟨.bool _, rfl, ?_⟩ | refine ⟨.int _ _, rfl, ?_⟩ | refine ⟨.string _, rfl, ?_⟩ | refine ⟨.slice _ _ _, rfl, ?_⟩ | refine ⟨.pointer _, rfl, ?_⟩); refine ⟨rfl, _, _, rfl, ?_⟩; (first | refine ⟨_, _, _, .z, ?_⟩ | refine ⟨_, _, _, .s .z, ?_⟩ | refine ⟨_, _, _, .s (.s .z), ?_⟩ | refine ⟨_, _, _, .s (.s (.s .z)), ?_⟩); refine ⟨⟨_, rfl⟩, ?_⟩; (clear H; intro w1 H; simp only [List.set] at H); go_frame) | ((with_reducible refine Hp.sta H ?_); refine ⟨rfl, ?_⟩; refine ⟨_, s_look rfl, ?_⟩; refine ⟨_, rfl, _, rfl, rfl, ?_⟩; (first | refine ⟨_, _, _, .z, ?_⟩ | refine ⟨_, _, _, .s .z, ?_⟩ | refine ⟨_, _, _, .s (.s .z), ?_⟩ | refine ⟨_, _, _, .s (.s (.s .z)), ?_⟩); refine ⟨rfl, rfl, ?_⟩; (clear H; intro w1 H; simp only [List.set] at H); go_frame) | ((with_reducible refine (qnum_v HS1.out HN1.out A c g w0 _ _ hr hc hm hq0 one_le6 H one_int).mono ?_); (rintro _ w1 ⟨rfl, HQ⟩; replace H := HQ; clear HQ)) | ((with_reducible refine (qwho_v HS2.out HF.out A c g w0 _ _ hr hc hm hq1 H).mono ?_); (rintro _ w1 ⟨rfl, HQ⟩; replace H := HQ; clear HQ)) | ((with_reducible refine (qwho_v HS3.out HT.out A c g w0 _ _ hr hc hm hq2 H).mono ?_); (rintro _ w1 ⟨rfl, HQ⟩; replace H := HQ; clear HQ)) | ((with_reducible refine (qnum_v HS4.out HN4.out A c g w0 _ _ hr hc hm hq3 six_le6 H six_int).mono ?_); (rintro _ w1 ⟨rfl, HQ⟩; replace H := HQ; clear HQ)) | ((with_reducible refine (qnum_v HS5.out HN5.out A c g w0 _ _ hr hc hm hq4 one_le6 H one_int).mono ?_); (rintro _ w1 ⟨rfl, HQ⟩; replace H := HQ; clear HQ)))
  exact bodyPost_ret (v := .agg (mgC { mg0 with k := 12, fr := F, to := T, ix := (N4 : Int), ck := (N5 : Int) }).toArray) (results_c rfl rfl (H.var (by kernel_rfl) (t := 34) (cs := mgC { mg0 with k := 12, fr := F, to := T, ix := (N4 : Int), ck := (N5 : Int) }) (.s (.s .z)) s_Msg)) rfl ⟨none, 0, none, 0, [], .inl ⟨rfl, rfl, rfl, rfl⟩, rfl, H.finS⟩
set_option maxRecDepth 100000 in
set_option maxHeartbeats 4000000 in
theorem qmsg_13 (A : Option Addr) (c : Nat) (l : List UInt8) (g : Nat) (w0 w : World) (L : List Item) (hr : Rd w0 A l) (hc : l.length ≤ c) (hm : c ≤ maxLen) (H : Hp w0 w (rrI g A l.length c ⟨0, false⟩ :: L)) (hK : leN (rnV l ⟨0, false⟩ 1) = 13) :
    Calls Tryd.prog 46 #[.pointer (some ⟨g, 0, none⟩)] w (RetQM w0 g A c l (qAll l) L) := by
  have e : qAll l = ⟨xqP l (rnP l (rnP l (rnP l (rnP l (rnP l (rnP l ⟨0, false⟩ 1) 1) 1) 6) 1) 1), { mg0 with k := 13, fr := whoQ (leN (rnV l (rnP l ⟨0, false⟩ 1) 1) : Nat), to := whoQ (leN (rnV l (rnP l (rnP l ⟨0, false⟩ 1) 1) 1) : Nat), ix := (leN (rnV l (rnP l (rnP l (rnP l ⟨0, false⟩ 1) 1) 1) 6) : Nat), ck := (leN (rnV l (rnP l (rnP l (rnP l (rnP l ⟨0, false⟩ 1) 1) 1) 6) 1) : Nat), ct := (leN (rnV l (rnP l (rnP l (rnP l (rnP l (rnP l ⟨0, false⟩ 1) 1) 1) 6) 1) 1) : Nat) }, [], xqV l (rnP l (rnP l (rnP l (rnP l (rnP l (rnP l ⟨0, false⟩ 1) 1) 1) 6) 1) 1)⟩ := by
    have hl : qlets (qheadP l).t.k = [122, 107, 109, 121] := by
      rw [show (qheadP l).t.k = 13 from by show ((leN (rnV l ⟨0, false⟩ 1) : Nat) : Int) = 13; rw [hK]; rfl]
      decide +kernel
    unfold qAll
    rw [hl]
    refine Eq.trans (b := ⟨xqP l (rnP l (rnP l (rnP l (rnP l (rnP l (rnP l ⟨0, false⟩ 1) 1) 1) 6) 1) 1), { mg0 with k := ((leN (rnV l ⟨0, false⟩ 1) : Nat) : Int), fr := whoQ (leN (rnV l (rnP l ⟨0, false⟩ 1) 1) : Nat), to := whoQ (leN (rnV l (rnP l (rnP l ⟨0, false⟩ 1) 1) 1) : Nat), ix := (leN (rnV l (rnP l (rnP l (rnP l ⟨0, false⟩ 1) 1) 1) 6) : Nat), ck := (leN (rnV l (rnP l (rnP l (rnP l (rnP l ⟨0, false⟩ 1) 1) 1) 6) 1) : Nat), ct := (leN (rnV l (rnP l (rnP l (rnP l (rnP l (rnP l ⟨0, false⟩ 1) 1) 1) 6) 1) 1) : Nat) }, [], xqV l (rnP l (rnP l (rnP l (rnP l (rnP l (rnP l ⟨0, false⟩ 1) 1) 1) 6) 1) 1)⟩) rfl ?_
    rw [hK]
    rfl
  have hq0 : (⟨0, false⟩ : Qs).a ≤ l.length := Nat.zero_le _
  have hb0 := leN_1 l ⟨0, false⟩
  have HN1 := Lib.hid hK
  clear hK hb0
  have hq1 : (rnP l ⟨0, false⟩ 1).a ≤ l.length := rnP_le hq0
  obtain ⟨s1, h⟩ : ∃ x, rnP l ⟨0, false⟩ 1 = x := ⟨_, rfl⟩
  rw [h] at e hq1
  have HS1 := Lib.hid h
  clear h
  obtain ⟨F, h⟩ : ∃ x, whoQ (leN (rnV l s1 1) : Nat) = x := ⟨_, rfl⟩
  rw [h] at e
  have HF := Lib.hid h
  clear h
  have hq2 : (rnP l s1 1).a ≤ l.length := rnP_le hq1
  obtain ⟨s2, h⟩ : ∃ x, rnP l s1 1 = x := ⟨_, rfl⟩
  rw [h] at e hq2
  have HS2 := Lib.hid h
  clear h
  obtain ⟨T, h⟩ : ∃ x, whoQ (leN (rnV l s2 1) : Nat) = x := ⟨_, rfl⟩
  rw [h] at e
  have HT := Lib.hid h
  clear h
  have hq3 : (rnP l s2 1).a ≤ l.length := rnP_le hq2
  obtain ⟨s3, h⟩ : ∃ x, rnP l s2 1 = x := ⟨_, rfl⟩
  rw [h] at e hq3
  have HS3 := Lib.hid h
  clear h
  obtain ⟨N4, h⟩ : ∃ x, leN (rnV l s3 6) = x := ⟨_, rfl⟩
  rw [h] at e
  have HN4 := Lib.hid h
  clear h
  have hq4 : (rnP l s3 6).a ≤ l.length := rnP_le hq3
  obtain ⟨s4, h⟩ : ∃ x, rnP l s3 6 = x := ⟨_, rfl⟩
  rw [h] at e hq4
  have HS4 := Lib.hid h
  clear h
  have hb5 := leN_1 l s4
  obtain ⟨N5, h⟩ : ∃ x, leN (rnV l s4 1) = x := ⟨_, rfl⟩
  rw [h] at e hb5
  have HN5 := Lib.hid h
  clear h
  have hw5 := u8_nat hb5
  clear hb5
  have hq5 : (rnP l s4 1).a ≤ l.length := rnP_le hq4
  obtain ⟨s5, h⟩ : ∃ x, rnP l s4 1 = x := ⟨_, rfl⟩
  rw [h] at e hq5
  have HS5 := Lib.hid h
  clear h
  have hb6 := leN_1 l s5
  obtain ⟨N6, h⟩ : ∃ x, leN (rnV l s5 1) = x := ⟨_, rfl⟩
  rw [h] at e hb6
  have HN6 := Lib.hid h
  clear h
  have hw6 := u8_nat hb6
  clear hb6
  have hq6 : (rnP l s5 1).a ≤ l.length := rnP_le hq5
  obtain ⟨s6, h⟩ : ∃ x, rnP l s5 1 = x := ⟨_, rfl⟩
  rw [h] at e hq6
  have HS6 := Lib.hid h
  clear h
  have hy7 := xqV_len l s6
  obtain ⟨V7, h⟩ : ∃ x, xqV l s6 = x := ⟨_, rfl⟩
  rw [h] at e hy7
  have HN7 := Lib.hid h
  clear h
  have hq7 : (xqP l s6).a ≤ l.length := xqP_le hq6
  obtain ⟨s7, h⟩ : ∃ x, xqP l s6 = x := ⟨_, rfl⟩
  rw [h] at e hq7
  have HS7 := Lib.hid h
  clear h
  have hsz : (bs V7).size ≤ maxLen := by
    have h9 : (255 : Nat) ≤ maxLen := by decide
    show V7.length ≤ maxLen
    omega
  clear hy7
  rw [e]
  clear e
  go_enter Tryd.func46, Tryd.ntmps46; go_wp2_with (first | ((with_reducible refine Hp.allo (ty := 34) H ?_); refine ⟨rfl, ?_⟩; refine ⟨_, z_look rfl, ?_⟩; (clear H; intro gr w1 H); (replace H := H.rot2); go_frame) | ((with_reducible refine Hp.ld H ?_); refine ⟨rfl, ?_⟩; refine ⟨c_look rfl, ?_⟩; refine ⟨_, _, rfl, ?_⟩; (first | refine ⟨_, _, _, .z, ?_⟩ | refine ⟨_, _, _, .s .z, ?_⟩ | refine ⟨_, _, _, .s (.s .z), ?_⟩ | refine ⟨_, _, _, .s (.s (.s .z)), ?_⟩); refine ⟨_, rfl, ?_⟩; go_frame) | ((with_reducible refine Hp.lda H ?_); refine ⟨rfl, by kernel_rfl, ?_⟩; refine ⟨_, s_look rfl, ?_⟩; refine ⟨_, rfl, ?_⟩; (first | refine ⟨_, _, _, .z, ?_⟩ | refine ⟨_, _, _, .s .z, ?_⟩ | refine ⟨_, _, _, .s (.s .z), ?_⟩ | refine ⟨_, _, _, .s (.s (.s .z)), ?_⟩); refine ⟨rfl, ?_⟩; go_frame) | ((with_reducible refine Hp.stv H ?_); refine ⟨rfl, ?_⟩; refine ⟨c_look rfl, ?_⟩; (first | refine ⟨.bool _, rfl, ?_⟩ | refine ⟨.int _ _, rfl, ?_⟩ | refine ⟨.string _, rfl, ?_⟩ | refine ⟨.slice _ _ _, rfl, ?_⟩ | refine ⟨.pointer _, rfl, ?_⟩); refine ⟨rfl, _, _, rfl, ?_⟩; (first | refine ⟨_, _, _, .z, ?_⟩ | refine ⟨_, _, _, .s .z, ?_⟩ | refine ⟨_, _, _, .s (.s .z), ?_⟩ | refine ⟨_, _, _, .s (.s (.s .z)), ?_⟩); refine ⟨⟨_, rfl⟩, ?_⟩; (clear H; intro w1 H; simp only [List.set] at H); go_frame) | ((with_reducible refine Hp.sta H ?_); refine ⟨rfl, ?_⟩; refine ⟨_, s_look rfl, ?_⟩; refine ⟨_, rfl, _, rfl, rfl, ?_⟩; (first | refine ⟨_, _, _, .z, ?_⟩ | refine ⟨_, _, _, .s .z, ?_⟩ | refine ⟨_, _, _, .s (.s .z), ?_⟩ | refine ⟨_, _, _, .s (.s (.s .z)), ?_⟩); refine ⟨rfl, rfl, ?_⟩; (clear H; intro w1 H; simp only [List.set] at H); go_frame) | ((with_reducible refine (qnum_v HS1.out HN1.out A c g w0 _ _ hr hc hm hq0 one_le6 H one_int).mono ?_); (rintro _ w1 ⟨rfl, HQ⟩; replace H := HQ; clear HQ)) | ((with_reducible refine (qwho_v HS2.out HF.out A c g w0 _ _ hr hc hm hq1 H).mono ?_); (rintro _ w1 ⟨rfl, HQ⟩; replace H := HQ; clear HQ)) | ((with_reducible refine (qwho_v HS3.out HT.out A c g w0 _ _ hr hc hm hq2 H).mono ?_); (rintro _ w1 ⟨rfl, HQ⟩; replace H := HQ; clear HQ)) | ((with_reducible refine (qnum_v HS4.out HN4.out A c g w0 _ _ hr hc hm hq3 six_le6 H six_int).mono ?_); (rintro _ w1 ⟨rfl, HQ⟩; replace H := HQ; clear HQ)) | ((with_reducible refine (qnum_v HS5.out HN5.out A c g w0 _ _ hr hc hm hq4 one_le6 H one_int).mono ?_); (rintro _ w1 ⟨rfl, HQ⟩; replace H := HQ; clear HQ)) | ((with_reducible refine (qnum_v HS6.out HN6.out A c g w0 _ _ hr hc hm hq5 one_le6 H one_int).mono ?_); (rintro _ w1 ⟨rfl, HQ⟩; replace H := HQ; clear HQ)) | ((with_reducible refine (qtxt_v HS7.out HN7.out A c g w0 _ _ hr hc hm hq6 H).mono ?_); (rintro _ w1 ⟨rfl, HQ⟩; replace H := HQ; clear HQ)) | ((with_reducible refine Hp.cvB H ?_); refine ⟨rfl, _, rfl, hsz, ?_⟩; (clear H; intro gy k w1 hk H); (replace H := H.rot3); go_frame))
  exact bodyPost_ret (v := .agg (mgC (cpM { mg0 with k := 13, fr := F, to := T, ix := (N4 : Int), ck := (N5 : Int), ct := (N6 : Int) } [] V7 none 0 (some ⟨gy, 0, none⟩) ((bs V7).size + k))).toArray) (results_c rfl rfl (H.var (by kernel_rfl) (t := 34) (cs := mgC (cpM { mg0 with k := 13, fr := F, to := T, ix := (N4 : Int), ck := (N5 : Int), ct := (N6 : Int) } [] V7 none 0 (some ⟨gy, 0, none⟩) ((bs V7).size + k))) (.s (.s (.s .z))) s_Msg)) rfl ⟨none, 0, some ⟨gy, 0, none⟩, _, [_], .inr ⟨gy, bs V7, k, [], hk, rfl, rfl, rfl, rfl⟩, rfl, H.finO⟩
set_option maxRecDepth 100000 in
set_option maxHeartbeats 4000000 in
theorem qmsg_14 (A : Option Addr) (c : Nat) (l : List UInt8) (g : Nat) (w0 w : World) (L : List Item) (hr : Rd w0 A l) (hc : l.length ≤ c) (hm : c ≤ maxLen) (H : Hp w0 w (rrI g A l.length c ⟨0, false⟩ :: L)) (hK : leN (rnV l ⟨0, false⟩ 1) = 14) :
    Calls Tryd.prog 46 #[.pointer (some ⟨g, 0, none⟩)] w (RetQM w0 g A c l (qAll l) L) := by
  have e : qAll l = ⟨rnP l (rnP l (rnP l (rnP l ⟨0, false⟩ 1) 1) 1) 6, { mg0 with k := 14, fr := whoQ (leN (rnV l (rnP l ⟨0, false⟩ 1) 1) : Nat), to := whoQ (leN (rnV l (rnP l (rnP l ⟨0, false⟩ 1) 1) 1) : Nat), ix := (leN (rnV l (rnP l (rnP l (rnP l ⟨0, false⟩ 1) 1) 1) 6) : Nat) }, [], []⟩ := by
    have hl : qlets (qheadP l).t.k = [105] := by
      rw [show (qheadP l).t.k = 14 from by show ((leN (rnV l ⟨0, false⟩ 1) : Nat) : Int) = 14; rw [hK]; rfl]
      decide +kernel
    unfold qAll
    rw [hl]
    refine Eq.trans (b := ⟨rnP l (rnP l (rnP l (rnP l ⟨0, false⟩ 1) 1) 1) 6, { mg0 with k := ((leN (rnV l ⟨0, false⟩ 1) : Nat) : Int), fr := whoQ (leN (rnV l (rnP l ⟨0, false⟩ 1) 1) : Nat), to := whoQ (leN (rnV l (rnP l (rnP l ⟨0, false⟩ 1) 1) 1) : Nat), ix := (leN (rnV l (rnP l (rnP l (rnP l ⟨0, false⟩ 1) 1) 1) 6) : Nat) }, [], []⟩) rfl ?_
    rw [hK]
    rfl
  have hq0 : (⟨0, false⟩ : Qs).a ≤ l.length := Nat.zero_le _
  have hb0 := leN_1 l ⟨0, false⟩
  have HN1 := Lib.hid hK
  clear hK hb0
  have hq1 : (rnP l ⟨0, false⟩ 1).a ≤ l.length := rnP_le hq0
  obtain ⟨s1, h⟩ : ∃ x, rnP l ⟨0, false⟩ 1 = x := ⟨_, rfl⟩
  rw [h] at e hq1
  have HS1 := Lib.hid h
  clear h
  obtain ⟨F, h⟩ : ∃ x, whoQ (leN (rnV l s1 1) : Nat) = x := ⟨_, rfl⟩
  rw [h] at e
  have HF := Lib.hid h
  clear h
  have hq2 : (rnP l s1 1).a ≤ l.length := rnP_le hq1
  obtain ⟨s2, h⟩ : ∃ x, rnP l s1 1 = x := ⟨_, rfl⟩
  rw [h] at e hq2
  have HS2 := Lib.hid h
  clear h
  obtain ⟨T, h⟩ : ∃ x, whoQ (leN (rnV l s2 1) : Nat) = x := ⟨_, rfl⟩
  rw [h] at e
  have HT := Lib.hid h
  clear h
  have hq3 : (rnP l s2 1).a ≤ l.length := rnP_le hq2
  obtain ⟨s3, h⟩ : ∃ x, rnP l s2 1 = x := ⟨_, rfl⟩
  rw [h] at e hq3
  have HS3 := Lib.hid h
  clear h
  obtain ⟨N4, h⟩ : ∃ x, leN (rnV l s3 6) = x := ⟨_, rfl⟩
  rw [h] at e
  have HN4 := Lib.hid h
  clear h
  have hq4 : (rnP l s3 6).a ≤ l.length := rnP_le hq3
  obtain ⟨s4, h⟩ : ∃ x, rnP l s3 6 = x := ⟨_, rfl⟩
  rw [h] at e hq4
  have HS4 := Lib.hid h
  clear h
  rw [e]
  clear e
  go_enter Tryd.func46, Tryd.ntmps46; go_wp2_with (first | ((with_reducible refine Hp.allo (ty := 34) H ?_); refine ⟨rfl, ?_⟩; refine ⟨_, z_look rfl, ?_⟩; (clear H; intro gr w1 H); (replace H := H.rot2); go_frame) | ((with_reducible refine Hp.ld H ?_); refine ⟨rfl, ?_⟩; refine ⟨c_look rfl, ?_⟩; refine ⟨_, _, rfl, ?_⟩; (first | refine ⟨_, _, _, .z, ?_⟩ | refine ⟨_, _, _, .s .z, ?_⟩ | refine ⟨_, _, _, .s (.s .z), ?_⟩ | refine ⟨_, _, _, .s (.s (.s .z)), ?_⟩); refine ⟨_, rfl, ?_⟩; go_frame) | ((with_reducible refine Hp.lda H ?_); refine ⟨rfl, by kernel_rfl, ?_⟩; refine ⟨_, s_look rfl, ?_⟩; refine ⟨_, rfl, ?_⟩; (first | refine ⟨_, _, _, .z, ?_⟩ | refine ⟨_, _, _, .s .z, ?_⟩ | refine ⟨_, _, _, .s (.s .z), ?_⟩ | refine ⟨_, _, _, .s (.s (.s .z)), ?_⟩); refine ⟨rfl, ?_⟩; go_frame) | ((with_reducible refine Hp.stv H ?_); refine ⟨rfl, ?_⟩; refine ⟨c_look rfl, ?_⟩; (first | refine ⟨.bool _, rfl, ?_⟩ | refine ⟨.int _ _, rfl, ?_⟩ | refine ⟨.string _, rfl, ?_⟩ | refine ⟨.slice _ _ _, rfl, ?_⟩ | refine ⟨.pointer _, rfl, ?_⟩); refine ⟨rfl, _, _, rfl, ?_⟩; (first | refine ⟨_, _, _, .z, ?_⟩ | refine ⟨_, _, _, .s .z, ?_⟩ | refine ⟨_, _, _, .s (.s .z), ?_⟩ | refine ⟨_, _, _, .s (.s (.s .z)), ?_⟩); refine ⟨⟨_, rfl⟩, ?_⟩; (clear H; intro w1 H; simp only [List.set] at H); go_frame) | ((with_reducible refine Hp.sta H ?_); refine ⟨rfl, ?_⟩; refine ⟨_, s_look rfl, ?_⟩; refine ⟨_, rfl, _, rfl, rfl, ?_⟩; (first | refine ⟨_, _, _, .z, ?_⟩ | refine ⟨_, _, _, .s .z, ?_⟩ | refine ⟨_, _, _, .s (.s .z), ?_⟩ | refine ⟨_, _, _, .s (.s (.s .z)), ?_⟩); refine ⟨rfl, rfl, ?_⟩; (clear H; intro w1 H; simp only [List.set] at H); go_frame) | ((with_reducible refine (qnum_v HS1.out HN1.out A c g w0 _ _ hr hc hm hq0 one_le6 H one_int).mono ?_); (rintro _ w1 ⟨rfl, HQ⟩; replace H := HQ; clear HQ)) | ((with_reducible refine (qwho_v HS2.out HF.out A c g w0 _ _ hr hc hm hq1 H).mono ?_); (rintro _ w1 ⟨rfl, HQ⟩; replace H := HQ; clear HQ)) | ((with_reducible refine (qwho_v HS3.out HT.out A c g w0 _ _ hr hc hm hq2 H).mono ?_); (rintro _ w1 ⟨rfl, HQ⟩; replace H := HQ; clear HQ)) | ((with_reducible refine (qnum_v HS4.out HN4.out A c g w0 _ _ hr hc hm hq3 six_le6 H six_int).mono ?_); (rintro _ w1 ⟨rfl, HQ⟩; replace H := HQ; clear HQ)))
  exact bodyPost_ret (v := .agg (mgC { mg0 with k := 14, fr := F, to := T, ix := (N4 : Int) }).toArray) (results_c rfl rfl (H.var (by kernel_rfl) (t := 34) (cs := mgC { mg0 with k := 14, fr := F, to := T, ix := (N4 : Int) }) (.s (.s .z)) s_Msg)) rfl ⟨none, 0, none, 0, [], .inl ⟨rfl, rfl, rfl, rfl⟩, rfl, H.finS⟩
set_option maxRecDepth 100000 in
set_option maxHeartbeats 4000000 in
theorem qmsg_15 (A : Option Addr) (c : Nat) (l : List UInt8) (g : Nat) (w0 w : World) (L : List Item) (hr : Rd w0 A l) (hc : l.length ≤ c) (hm : c ≤ maxLen) (H : Hp w0 w (rrI g A l.length c ⟨0, false⟩ :: L)) (hK : leN (rnV l ⟨0, false⟩ 1) = 15) :
    Calls Tryd.prog 46 #[.pointer (some ⟨g, 0, none⟩)] w (RetQM w0 g A c l (qAll l) L) := by
  have e : qAll l = ⟨rnP l (rnP l (rnP l (rnP l (rnP l ⟨0, false⟩ 1) 1) 1) 6) 1, { mg0 with k := 15, fr := whoQ (leN (rnV l (rnP l ⟨0, false⟩ 1) 1) : Nat), to := whoQ (leN (rnV l (rnP l (rnP l ⟨0, false⟩ 1) 1) 1) : Nat), ix := (leN (rnV l (rnP l (rnP l (rnP l ⟨0, false⟩ 1) 1) 1) 6) : Nat), ck := (leN (rnV l (rnP l (rnP l (rnP l (rnP l ⟨0, false⟩ 1) 1) 1) 6) 1) : Nat) }, [], []⟩ := by
    have hl : qlets (qheadP l).t.k = [122, 107] := by
      rw [show (qheadP l).t.k = 15 from by show ((leN (rnV l ⟨0, false⟩ 1) : Nat) : Int) = 15; rw [hK]; rfl]
      decide +kernel
    unfold qAll
    rw [hl]
    refine Eq.trans (b := ⟨rnP l (rnP l (rnP l (rnP l (rnP l ⟨0, false⟩ 1) 1) 1) 6) 1, { mg0 with k := ((leN (rnV l ⟨0, false⟩ 1) : Nat) : Int), fr := whoQ (leN (rnV l (rnP l ⟨0, false⟩ 1) 1) : Nat), to := whoQ (leN (rnV l (rnP l (rnP l ⟨0, false⟩ 1) 1) 1) : Nat), ix := (leN (rnV l (rnP l (rnP l (rnP l ⟨0, false⟩ 1) 1) 1) 6) : Nat), ck := (leN (rnV l (rnP l (rnP l (rnP l (rnP l ⟨0, false⟩ 1) 1) 1) 6) 1) : Nat) }, [], []⟩) rfl ?_
    rw [hK]
    rfl
  have hq0 : (⟨0, false⟩ : Qs).a ≤ l.length := Nat.zero_le _
  have hb0 := leN_1 l ⟨0, false⟩
  have HN1 := Lib.hid hK
  clear hK hb0
  have hq1 : (rnP l ⟨0, false⟩ 1).a ≤ l.length := rnP_le hq0
  obtain ⟨s1, h⟩ : ∃ x, rnP l ⟨0, false⟩ 1 = x := ⟨_, rfl⟩
  rw [h] at e hq1
  have HS1 := Lib.hid h
  clear h
  obtain ⟨F, h⟩ : ∃ x, whoQ (leN (rnV l s1 1) : Nat) = x := ⟨_, rfl⟩
  rw [h] at e
  have HF := Lib.hid h
  clear h
  have hq2 : (rnP l s1 1).a ≤ l.length := rnP_le hq1
  obtain ⟨s2, h⟩ : ∃ x, rnP l s1 1 = x := ⟨_, rfl⟩
  rw [h] at e hq2
  have HS2 := Lib.hid h
  clear h
  obtain ⟨T, h⟩ : ∃ x, whoQ (leN (rnV l s2 1) : Nat) = x := ⟨_, rfl⟩
  rw [h] at e
  have HT := Lib.hid h
  clear h
  have hq3 : (rnP l s2 1).a ≤ l.length := rnP_le hq2
  obtain ⟨s3, h⟩ : ∃ x, rnP l s2 1 = x := ⟨_, rfl⟩
  rw [h] at e hq3
  have HS3 := Lib.hid h
  clear h
  obtain ⟨N4, h⟩ : ∃ x, leN (rnV l s3 6) = x := ⟨_, rfl⟩
  rw [h] at e
  have HN4 := Lib.hid h
  clear h
  have hq4 : (rnP l s3 6).a ≤ l.length := rnP_le hq3
  obtain ⟨s4, h⟩ : ∃ x, rnP l s3 6 = x := ⟨_, rfl⟩
  rw [h] at e hq4
  have HS4 := Lib.hid h
  clear h
  have hb5 := leN_1 l s4
  obtain ⟨N5, h⟩ : ∃ x, leN (rnV l s4 1) = x := ⟨_, rfl⟩
  rw [h] at e hb5
  have HN5 := Lib.hid h
  clear h
  have hw5 := u8_nat hb5
  clear hb5
  have hq5 : (rnP l s4 1).a ≤ l.length := rnP_le hq4
  obtain ⟨s5, h⟩ : ∃ x, rnP l s4 1 = x := ⟨_, rfl⟩
  rw [h] at e hq5
  have HS5 := Lib.hid h
  clear h
  rw [e]
  clear e
  go_enter Tryd.func46, Tryd.ntmps46; go_wp2_with (first | ((with_reducible refine Hp.allo (ty := 34) H ?_); refine ⟨rfl, ?_⟩; refine ⟨_, z_look rfl, ?_⟩; (clear H; intro gr w1 H); (replace H := H.rot2); go_frame) | ((with_reducible refine Hp.ld H ?_); refine ⟨rfl, ?_⟩; refine ⟨c_look rfl, ?_⟩; refine ⟨_, _, rfl, ?_⟩; (first | refine ⟨_, _, _, .z, ?_⟩ | refine ⟨_, _, _, .s .z, ?_⟩ | refine ⟨_, _, _, .s (.s .z), ?_⟩ | refine ⟨_, _, _, .s (.s (.s .z)), ?_⟩); refine ⟨_, rfl, ?_⟩; go_frame) | ((with_reducible refine Hp.lda H ?_); refine ⟨rfl, by kernel_rfl, ?_⟩; refine ⟨_, s_look rfl, ?_⟩; refine ⟨_, rfl, ?_⟩; (first | refine ⟨_, _, _, .z, ?_⟩ | refine ⟨_, _, _, .s .z, ?_⟩ | refine ⟨_, _, _, .s (.s .z), ?_⟩ | refine ⟨_, _, _, .s (.s (.s .z)), ?_⟩); refine ⟨rfl, ?_⟩; go_frame) | ((with_reducible refine Hp.stv H ?_); refine ⟨rfl, ?_⟩; refine ⟨c_look rfl, ?_⟩; (first | refine ⟨.bool _, rfl, ?_⟩ | refine ⟨.int _ _, rfl, ?_⟩ | refine ⟨.string _, rfl, ?_⟩ | refine ⟨.slice _ _ _, rfl, ?_⟩ | refine ⟨.pointer _, rfl, ?_⟩); refine ⟨rfl, _, _, rfl, ?_⟩; (first | refine ⟨_, _, _, .z, ?_⟩ | refine ⟨_, _, _, .s .z, ?_⟩ | refine ⟨_, _, _, .s (.s .z), ?_⟩ | refine ⟨_, _, _, .s (.s (.s .z)), ?_⟩); refine ⟨⟨_, rfl⟩, ?_⟩; (clear H; intro w1 H; simp only [List.set] at H); go_frame) | ((with_reducible refine Hp.sta H ?_); refine ⟨rfl, ?_⟩; refine ⟨_, s_look rfl, ?_⟩; refine ⟨_, rfl, _, rfl, rfl, ?_⟩; (first | refine ⟨_, _, _, .z, ?_⟩ | refine ⟨_, _, _, .s .z, ?_⟩ | refine ⟨_, _, _, .s (.s .z), ?_⟩ | refine ⟨_, _, _, .s (.s (.s .z)), ?_⟩); refine ⟨rfl, rfl, ?_⟩; (clear H; intro w1 H; simp only [List.set] at H); go_frame) | ((with_reducible refine (qnum_v HS1.out HN1.out A c g w0 _ _ hr hc hm hq0 one_le6 H one_int).mono ?_); (rintro _ w1 ⟨rfl, HQ⟩; replace H := HQ; clear HQ)) | ((with_reducible refine (qwho_v HS2.out HF.out A c g w0 _ _ hr hc hm hq1 H).mono ?_); (rintro _ w1 ⟨rfl, HQ⟩; replace H := HQ; clear HQ)) | ((with_reducible refine (qwho_v HS3.out HT.out A c g w0 _ _ hr hc hm hq2 H).mono ?_); (rintro _ w1 ⟨rfl, HQ⟩; replace H := HQ; clear HQ)) | ((with_reducible refine (qnum_v HS4.out HN4.out A c g w0 _ _ hr hc hm hq3 six_le6 H six_int).mono ?_); (rintro _ w1 ⟨rfl, HQ⟩; replace H := HQ; clear HQ)) | ((with_reducible refine (qnum_v HS5.out HN5.out A c g w0 _ _ hr hc hm hq4 one_le6 H one_int).mono ?_); (rintro _ w1 ⟨rfl, HQ⟩; replace H := HQ; clear HQ)))
  exact bodyPost_ret (v := .agg (mgC { mg0 with k := 15, fr := F, to := T, ix := (N4 : Int), ck := (N5 : Int) }).toArray) (results_c rfl rfl (H.var (by kernel_rfl) (t := 34) (cs := mgC { mg0 with k := 15, fr := F, to := T, ix := (N4 : Int), ck := (N5 : Int) }) (.s (.s .z)) s_Msg)) rfl ⟨none, 0, none, 0, [], .inl ⟨rfl, rfl, rfl, rfl⟩, rfl, H.finS⟩
set_option maxRecDepth 100000 in
set_option maxHeartbeats 4000000 in
theorem qmsg_0 (A : Option Addr) (c : Nat) (l : List UInt8) (g : Nat) (w0 w : World) (L : List Item) (hr : Rd w0 A l) (hc : l.length ≤ c) (hm : c ≤ maxLen) (H : Hp w0 w (rrI g A l.length c ⟨0, false⟩ :: L)) (hK : kindB (leN (rnV l ⟨0, false⟩ 1) : Nat) = false) :
    Calls Tryd.prog 46 #[.pointer (some ⟨g, 0, none⟩)] w (RetQM w0 g A c l (qAll l) L) := by
  have e : qAll l = ⟨rnP l (rnP l (rnP l (rnP l (rnP l (rnP l ⟨0, false⟩ 1) 1) 1) 6) 1) 6, { mg0 with k := ((leN (rnV l ⟨0, false⟩ 1) : Nat) : Int), fr := whoQ (leN (rnV l (rnP l ⟨0, false⟩ 1) 1) : Nat), to := whoQ (leN (rnV l (rnP l (rnP l ⟨0, false⟩ 1) 1) 1) : Nat), br := (leN (rnV l (rnP l (rnP l (rnP l ⟨0, false⟩ 1) 1) 1) 6) : Nat), bp := (leN (rnV l (rnP l (rnP l (rnP l (rnP l ⟨0, false⟩ 1) 1) 1) 6) 1) : Nat), ix := (leN (rnV l (rnP l (rnP l (rnP l (rnP l (rnP l ⟨0, false⟩ 1) 1) 1) 6) 1) 6) : Nat) }, [], []⟩ := by
    have hl : qlets (qheadP l).t.k = [98, 105] := by
      unfold qlets
      rw [if_neg (by rw [show (qheadP l).t.k = ((leN (rnV l ⟨0, false⟩ 1) : Nat) : Int) from rfl, hK]; decide)]
    unfold qAll
    rw [hl]
    rfl
  have hq0 : (⟨0, false⟩ : Qs).a ≤ l.length := Nat.zero_le _
  have hb0 := leN_1 l ⟨0, false⟩
  obtain ⟨N1, h⟩ : ∃ x, leN (rnV l ⟨0, false⟩ 1) = x := ⟨_, rfl⟩
  rw [h] at e hb0 hK
  have HN1 := Lib.hid h
  clear h
  have hw1 := u8_nat hb0
  have k1 : ((N1 : Int) == 1) = false := beq_eq_false_iff_ne.mpr (fun hh => by rw [hh] at hK; exact absurd hK (by decide))
  have k2 : ((N1 : Int) == 2) = false := beq_eq_false_iff_ne.mpr (fun hh => by rw [hh] at hK; exact absurd hK (by decide))
  have k3 : ((N1 : Int) == 3) = false := beq_eq_false_iff_ne.mpr (fun hh => by rw [hh] at hK; exact absurd hK (by decide))
  have k4 : ((N1 : Int) == 4) = false := beq_eq_false_iff_ne.mpr (fun hh => by rw [hh] at hK; exact absurd hK (by decide))
  have k5 : ((N1 : Int) == 5) = false := beq_eq_false_iff_ne.mpr (fun hh => by rw [hh] at hK; exact absurd hK (by decide))
  have k6 : ((N1 : Int) == 6) = false := beq_eq_false_iff_ne.mpr (fun hh => by rw [hh] at hK; exact absurd hK (by decide))
  have k7 : ((N1 : Int) == 7) = false := beq_eq_false_iff_ne.mpr (fun hh => by rw [hh] at hK; exact absurd hK (by decide))
  have k8 : ((N1 : Int) == 8) = false := beq_eq_false_iff_ne.mpr (fun hh => by rw [hh] at hK; exact absurd hK (by decide))
  have k9 : ((N1 : Int) == 9) = false := beq_eq_false_iff_ne.mpr (fun hh => by rw [hh] at hK; exact absurd hK (by decide))
  have k10 : ((N1 : Int) == 10) = false := beq_eq_false_iff_ne.mpr (fun hh => by rw [hh] at hK; exact absurd hK (by decide))
  have k11 : ((N1 : Int) == 11) = false := beq_eq_false_iff_ne.mpr (fun hh => by rw [hh] at hK; exact absurd hK (by decide))
  have k12 : ((N1 : Int) == 12) = false := beq_eq_false_iff_ne.mpr (fun hh => by rw [hh] at hK; exact absurd hK (by decide))
  have k13 : ((N1 : Int) == 13) = false := beq_eq_false_iff_ne.mpr (fun hh => by rw [hh] at hK; exact absurd hK (by decide))
  have k14 : ((N1 : Int) == 14) = false := beq_eq_false_iff_ne.mpr (fun hh => by rw [hh] at hK; exact absurd hK (by decide))
  have k15 : ((N1 : Int) == 15) = false := beq_eq_false_iff_ne.mpr (fun hh => by rw [hh] at hK; exact absurd hK (by decide))
  clear hK hb0
  have hq1 : (rnP l ⟨0, false⟩ 1).a ≤ l.length := rnP_le hq0
  obtain ⟨s1, h⟩ : ∃ x, rnP l ⟨0, false⟩ 1 = x := ⟨_, rfl⟩
  rw [h] at e hq1
  have HS1 := Lib.hid h
  clear h
  obtain ⟨F, h⟩ : ∃ x, whoQ (leN (rnV l s1 1) : Nat) = x := ⟨_, rfl⟩
  rw [h] at e
  have HF := Lib.hid h
  clear h
  have hq2 : (rnP l s1 1).a ≤ l.length := rnP_le hq1
  obtain ⟨s2, h⟩ : ∃ x, rnP l s1 1 = x := ⟨_, rfl⟩
  rw [h] at e hq2
  have HS2 := Lib.hid h
  clear h
  obtain ⟨T, h⟩ : ∃ x, whoQ (leN (rnV l s2 1) : Nat) = x := ⟨_, rfl⟩
  rw [h] at e
  have HT := Lib.hid h
  clear h
  have hq3 : (rnP l s2 1).a ≤ l.length := rnP_le hq2
  obtain ⟨s3, h⟩ : ∃ x, rnP l s2 1 = x := ⟨_, rfl⟩
  rw [h] at e hq3
  have HS3 := Lib.hid h
  clear h
  obtain ⟨R4, h⟩ : ∃ x, leN (rnV l s3 6) = x := ⟨_, rfl⟩
  rw [h] at e
  have HR4 := Lib.hid h
  clear h
  obtain ⟨P4, h⟩ : ∃ x, leN (rnV l (rnP l s3 6) 1) = x := ⟨_, rfl⟩
  rw [h] at e
  have HP4 := Lib.hid h
  clear h
  have hq4 : (rnP l (rnP l s3 6) 1).a ≤ l.length := rnP_le (rnP_le hq3)
  obtain ⟨s4, h⟩ : ∃ x, rnP l (rnP l s3 6) 1 = x := ⟨_, rfl⟩
  rw [h] at e hq4
  have HS4 := Lib.hid h
  clear h
  obtain ⟨N5, h⟩ : ∃ x, leN (rnV l s4 6) = x := ⟨_, rfl⟩
  rw [h] at e
  have HN5 := Lib.hid h
  clear h
  have hq5 : (rnP l s4 6).a ≤ l.length := rnP_le hq4
  obtain ⟨s5, h⟩ : ∃ x, rnP l s4 6 = x := ⟨_, rfl⟩
  rw [h] at e hq5
  have HS5 := Lib.hid h
  clear h
  rw [e]
  clear e
  go_enter Tryd.func46, Tryd.ntmps46; go_wp2_with (first | ((with_reducible refine Hp.allo (ty := 34) H ?_); refine ⟨rfl, ?_⟩; refine ⟨_, z_look rfl, ?_⟩; (clear H; intro gr w1 H); (replace H := H.rot2); go_frame) | ((with_reducible refine Hp.ld H ?_); refine ⟨rfl, ?_⟩; refine ⟨c_look rfl, ?_⟩; refine ⟨_, _, rfl, ?_⟩; (first | refine ⟨_, _, _, .z, ?_⟩ | refine ⟨_, _, _, .s .z, ?_⟩ | refine ⟨_, _, _, .s (.s .z), ?_⟩ | refine ⟨_, _, _, .s (.s (.s .z)), ?_⟩); refine ⟨_, rfl, ?_⟩; go_frame) | ((with_reducible refine Hp.lda H ?_); refine ⟨rfl, by kernel_rfl, ?_⟩; refine ⟨_, s_look rfl, ?_⟩; refine ⟨_, rfl, ?_⟩; (first | refine ⟨_, _, _, .z, ?_⟩ | refine ⟨_, _, _, .s .z, ?_⟩ | refine ⟨_, _, _, .s (.s .z), ?_⟩ | refine ⟨_, _, _, .s (.s (.s .z)), ?_⟩); refine ⟨rfl, ?_⟩; go_frame) | ((with_reducible refine Hp.stv H ?_); refine ⟨rfl, ?_⟩; refine ⟨c_look rfl, ?_⟩; (first | refine ⟨.bool _, rfl, ?_⟩ | refine ⟨.int _ _, rfl, ?_⟩ | refine ⟨.string _, rfl, ?_⟩ | refine ⟨.slice _ _ _, rfl, ?_⟩ | refine ⟨.pointer _, rfl, ?_⟩); refine ⟨rfl, _, _, rfl, ?_⟩; (first | refine ⟨_, _, _, .z, ?_⟩ | refine ⟨_, _, _, .s .z, ?_⟩ | refine ⟨_, _, _, .s (.s .z), ?_⟩ | refine ⟨_, _, _, .s (.s (.s .z)), ?_⟩); refine ⟨⟨_, rfl⟩, ?_⟩; (clear H; intro w1 H; simp only [List.set] at H); go_frame) | ((with_reducible refine Hp.sta H ?_); refine ⟨rfl, ?_⟩; refine ⟨_, s_look rfl, ?_⟩; refine ⟨_, rfl, _, rfl, rfl, ?_⟩; (first | refine ⟨_, _, _, .z, ?_⟩ | refine ⟨_, _, _, .s .z, ?_⟩ | refine ⟨_, _, _, .s (.s .z), ?_⟩ | refine ⟨_, _, _, .s (.s (.s .z)), ?_⟩); refine ⟨rfl, rfl, ?_⟩; (clear H; intro w1 H; simp only [List.set] at H); go_frame) | ((with_reducible refine (qnum_v HS1.out HN1.out A c g w0 _ _ hr hc hm hq0 one_le6 H one_int).mono ?_); (rintro _ w1 ⟨rfl, HQ⟩; replace H := HQ; clear HQ)) | ((with_reducible refine (qwho_v HS2.out HF.out A c g w0 _ _ hr hc hm hq1 H).mono ?_); (rintro _ w1 ⟨rfl, HQ⟩; replace H := HQ; clear HQ)) | ((with_reducible refine (qwho_v HS3.out HT.out A c g w0 _ _ hr hc hm hq2 H).mono ?_); (rintro _ w1 ⟨rfl, HQ⟩; replace H := HQ; clear HQ)) | ((with_reducible refine (qbal_v HS4.out HR4.out HP4.out A c g w0 _ _ hr hc hm hq3 H).mono ?_); (rintro _ w1 ⟨rfl, HQ⟩; replace H := HQ; clear HQ)) | ((with_reducible refine Hp.str H ?_); refine ⟨rfl, ?_⟩; refine ⟨_, s_look rfl, ?_⟩; refine ⟨_, _, rfl, baC R4 P4, rfl, rfl, ?_⟩; (first | refine ⟨_, _, _, .z, ?_⟩ | refine ⟨_, _, _, .s .z, ?_⟩ | refine ⟨_, _, _, .s (.s .z), ?_⟩ | refine ⟨_, _, _, .s (.s (.s .z)), ?_⟩); refine ⟨rfl, mgC { mg0 with k := (N1 : Int), fr := F, to := T, br := (R4 : Int), bp := (P4 : Int) }, rfl, _, rfl, Nat.le_of_ble_eq_true rfl, ?_⟩; (clear H; intro w1 H; simp only [List.set] at H); go_frame) | ((with_reducible refine (qnum_v HS5.out HN5.out A c g w0 _ _ hr hc hm hq4 six_le6 H six_int).mono ?_); (rintro _ w1 ⟨rfl, HQ⟩; replace H := HQ; clear HQ)))
  exact bodyPost_ret (v := .agg (mgC { mg0 with k := (N1 : Int), fr := F, to := T, br := (R4 : Int), bp := (P4 : Int), ix := (N5 : Int) }).toArray) (results_c rfl rfl (H.var (by kernel_rfl) (t := 34) (cs := mgC { mg0 with k := (N1 : Int), fr := F, to := T, br := (R4 : Int), bp := (P4 : Int), ix := (N5 : Int) }) (.s (.s .z)) s_Msg)) rfl ⟨none, 0, none, 0, [], .inl ⟨rfl, rfl, rfl, rfl⟩, rfl, H.finS⟩
end Go.Proofs.YtajgikjmoeemnaaDoor
