/-
  THE WALK OF (*message.reader).field, letter by letter. (Printed by wip/bin/genpab.py.)
-/
import Derived.Test.YtajgikjmoeemnaaDoorPaA
import Derived.Test.YtajgikjmoeemnaaDoorPaC
import Derived.Test.YtajgikjmoeemnaaDoorPk4
namespace Go.Proofs.YtajgikjmoeemnaaDoor
set_option maxRecDepth 100000
open Go.RowKit
set_option linter.unusedVariables false
set_option linter.unusedSimpArgs false
abbrev mgI (gm : Nat) (t : Mg) (rs : List Rp) (y : List UInt8) (Ar : Option Addr) (cr : Nat) (By : Option Addr) (dy : Nat) : Item := .blk gm 34 (mgC (cpM t rs y Ar cr By dy))
/-- a letter that is neither of the reports nor of the bytes -/
def RetF (w0 : World) (g gm : Nat) (A : Option Addr) (n c : Nat) (Ar : Option Addr) (cr : Nat) (By : Option Addr) (dy : Nat) (x : St) (L : List Item) (e : Ending) (w' : World) : Prop :=
  e = .returned (.tuple #[]) ∧ Hp w0 w' (rdI g A n c x.s :: mgI gm x.t x.rs x.y Ar cr By dy :: L)
set_option maxHeartbeats 2000000 in
theorem rf_115 {x : St} {s : Ps} {t : Mg} {rs : List Rp} {y : List UInt8} (hx : x = ⟨s, t, rs, y⟩) (A : Option Addr) (c : Nat) (l : List UInt8) (g gm : Nat) (Ar : Option Addr) (cr : Nat) (By : Option Addr) (dy : Nat) (w0 w : World) (L : List Item) (hr : Rd w0 A l) (hc : l.length ≤ c) (hm : c ≤ maxLen) (H : Hp w0 w (rdI g A l.length c s :: mgI gm t rs y Ar cr By dy :: L)) :
    Calls Tryd.prog 45 #[.pointer (some ⟨g, 0, none⟩), .pointer (some ⟨gm, 0, none⟩), .int .i32 115] w (RetF w0 g gm A l.length c Ar cr By dy (fldP l 115 x) L) := by
  have e : fldP l 115 x = ⟨nS l s 6, { t with sq := nN l s 6 }, rs, y⟩ := by rw [hx]; rfl
  rw [e]
  clear e hx
  go_enter Tryd.func45, Tryd.ntmps45; go_wp2_with (first | ((with_reducible refine Hp.stv H ?_); refine ⟨rfl, ?_⟩; refine ⟨c_look rfl, ?_⟩; (first | refine ⟨.bool _, rfl, ?_⟩ | refine ⟨.int _ _, rfl, ?_⟩ | refine ⟨.string _, rfl, ?_⟩ | refine ⟨.slice _ _ _, rfl, ?_⟩ | refine ⟨.pointer _, rfl, ?_⟩); refine ⟨rfl, _, _, rfl, ?_⟩; (first | refine ⟨_, _, _, .z, ?_⟩ | refine ⟨_, _, _, .s .z, ?_⟩ | refine ⟨_, _, _, .s (.s .z), ?_⟩); refine ⟨⟨_, rfl⟩, ?_⟩; (clear H; intro w1 H; simp only [List.set] at H); go_frame) | ((with_reducible refine (num_any A c l _ _ g w0 _ _ hr hc hm H).mono ?_); rintro _ w1 ⟨rfl, HQ⟩; replace H := HQ; clear HQ))
  go_end0
  exact ⟨rfl, H⟩
set_option maxHeartbeats 2000000 in
theorem rf_105 {x : St} {s : Ps} {t : Mg} {rs : List Rp} {y : List UInt8} (hx : x = ⟨s, t, rs, y⟩) (A : Option Addr) (c : Nat) (l : List UInt8) (g gm : Nat) (Ar : Option Addr) (cr : Nat) (By : Option Addr) (dy : Nat) (w0 w : World) (L : List Item) (hr : Rd w0 A l) (hc : l.length ≤ c) (hm : c ≤ maxLen) (H : Hp w0 w (rdI g A l.length c s :: mgI gm t rs y Ar cr By dy :: L)) :
    Calls Tryd.prog 45 #[.pointer (some ⟨g, 0, none⟩), .pointer (some ⟨gm, 0, none⟩), .int .i32 105] w (RetF w0 g gm A l.length c Ar cr By dy (fldP l 105 x) L) := by
  have e : fldP l 105 x = ⟨nS l s 6, { t with ix := nN l s 6 }, rs, y⟩ := by rw [hx]; rfl
  rw [e]
  clear e hx
  go_enter Tryd.func45, Tryd.ntmps45; go_wp2_with (first | ((with_reducible refine Hp.stv H ?_); refine ⟨rfl, ?_⟩; refine ⟨c_look rfl, ?_⟩; (first | refine ⟨.bool _, rfl, ?_⟩ | refine ⟨.int _ _, rfl, ?_⟩ | refine ⟨.string _, rfl, ?_⟩ | refine ⟨.slice _ _ _, rfl, ?_⟩ | refine ⟨.pointer _, rfl, ?_⟩); refine ⟨rfl, _, _, rfl, ?_⟩; (first | refine ⟨_, _, _, .z, ?_⟩ | refine ⟨_, _, _, .s .z, ?_⟩ | refine ⟨_, _, _, .s (.s .z), ?_⟩); refine ⟨⟨_, rfl⟩, ?_⟩; (clear H; intro w1 H; simp only [List.set] at H); go_frame) | ((with_reducible refine (num_any A c l _ _ g w0 _ _ hr hc hm H).mono ?_); rintro _ w1 ⟨rfl, HQ⟩; replace H := HQ; clear HQ))
  go_end0
  exact ⟨rfl, H⟩
set_option maxHeartbeats 2000000 in
theorem rf_122 {x : St} {s : Ps} {t : Mg} {rs : List Rp} {y : List UInt8} (hx : x = ⟨s, t, rs, y⟩) (A : Option Addr) (c : Nat) (l : List UInt8) (g gm : Nat) (Ar : Option Addr) (cr : Nat) (By : Option Addr) (dy : Nat) (w0 w : World) (L : List Item) (hr : Rd w0 A l) (hc : l.length ≤ c) (hm : c ≤ maxLen) (H : Hp w0 w (rdI g A l.length c s :: mgI gm t rs y Ar cr By dy :: L)) :
    Calls Tryd.prog 45 #[.pointer (some ⟨g, 0, none⟩), .pointer (some ⟨gm, 0, none⟩), .int .i32 122] w (RetF w0 g gm A l.length c Ar cr By dy (fldP l 122 x) L) := by
  have e : fldP l 122 x = ⟨nS l s 6, { t with ix := nN l s 6 }, rs, y⟩ := by rw [hx]; rfl
  rw [e]
  clear e hx
  go_enter Tryd.func45, Tryd.ntmps45; go_wp2_with (first | ((with_reducible refine Hp.stv H ?_); refine ⟨rfl, ?_⟩; refine ⟨c_look rfl, ?_⟩; (first | refine ⟨.bool _, rfl, ?_⟩ | refine ⟨.int _ _, rfl, ?_⟩ | refine ⟨.string _, rfl, ?_⟩ | refine ⟨.slice _ _ _, rfl, ?_⟩ | refine ⟨.pointer _, rfl, ?_⟩); refine ⟨rfl, _, _, rfl, ?_⟩; (first | refine ⟨_, _, _, .z, ?_⟩ | refine ⟨_, _, _, .s .z, ?_⟩ | refine ⟨_, _, _, .s (.s .z), ?_⟩); refine ⟨⟨_, rfl⟩, ?_⟩; (clear H; intro w1 H; simp only [List.set] at H); go_frame) | ((with_reducible refine (num_any A c l _ _ g w0 _ _ hr hc hm H).mono ?_); rintro _ w1 ⟨rfl, HQ⟩; replace H := HQ; clear HQ))
  go_end0
  exact ⟨rfl, H⟩
set_option maxHeartbeats 2000000 in
theorem rf_99 {x : St} {s : Ps} {t : Mg} {rs : List Rp} {y : List UInt8} (hx : x = ⟨s, t, rs, y⟩) (A : Option Addr) (c : Nat) (l : List UInt8) (g gm : Nat) (Ar : Option Addr) (cr : Nat) (By : Option Addr) (dy : Nat) (w0 w : World) (L : List Item) (hr : Rd w0 A l) (hc : l.length ≤ c) (hm : c ≤ maxLen) (H : Hp w0 w (rdI g A l.length c s :: mgI gm t rs y Ar cr By dy :: L)) :
    Calls Tryd.prog 45 #[.pointer (some ⟨g, 0, none⟩), .pointer (some ⟨gm, 0, none⟩), .int .i32 99] w (RetF w0 g gm A l.length c Ar cr By dy (fldP l 99 x) L) := by
  have e : fldP l 99 x = ⟨nS l s 6, { t with cm := nN l s 6 }, rs, y⟩ := by rw [hx]; rfl
  rw [e]
  clear e hx
  go_enter Tryd.func45, Tryd.ntmps45; go_wp2_with (first | ((with_reducible refine Hp.stv H ?_); refine ⟨rfl, ?_⟩; refine ⟨c_look rfl, ?_⟩; (first | refine ⟨.bool _, rfl, ?_⟩ | refine ⟨.int _ _, rfl, ?_⟩ | refine ⟨.string _, rfl, ?_⟩ | refine ⟨.slice _ _ _, rfl, ?_⟩ | refine ⟨.pointer _, rfl, ?_⟩); refine ⟨rfl, _, _, rfl, ?_⟩; (first | refine ⟨_, _, _, .z, ?_⟩ | refine ⟨_, _, _, .s .z, ?_⟩ | refine ⟨_, _, _, .s (.s .z), ?_⟩); refine ⟨⟨_, rfl⟩, ?_⟩; (clear H; intro w1 H; simp only [List.set] at H); go_frame) | ((with_reducible refine (num_any A c l _ _ g w0 _ _ hr hc hm H).mono ?_); rintro _ w1 ⟨rfl, HQ⟩; replace H := HQ; clear HQ))
  go_end0
  exact ⟨rfl, H⟩
set_option maxHeartbeats 2000000 in
theorem rf_110 {x : St} {s : Ps} {t : Mg} {rs : List Rp} {y : List UInt8} (hx : x = ⟨s, t, rs, y⟩) (A : Option Addr) (c : Nat) (l : List UInt8) (g gm : Nat) (Ar : Option Addr) (cr : Nat) (By : Option Addr) (dy : Nat) (w0 w : World) (L : List Item) (hr : Rd w0 A l) (hc : l.length ≤ c) (hm : c ≤ maxLen) (H : Hp w0 w (rdI g A l.length c s :: mgI gm t rs y Ar cr By dy :: L)) :
    Calls Tryd.prog 45 #[.pointer (some ⟨g, 0, none⟩), .pointer (some ⟨gm, 0, none⟩), .int .i32 110] w (RetF w0 g gm A l.length c Ar cr By dy (fldP l 110 x) L) := by
  have e : fldP l 110 x = ⟨nS l s 6, { t with nc := nN l s 6 }, rs, y⟩ := by rw [hx]; rfl
  rw [e]
  clear e hx
  go_enter Tryd.func45, Tryd.ntmps45; go_wp2_with (first | ((with_reducible refine Hp.stv H ?_); refine ⟨rfl, ?_⟩; refine ⟨c_look rfl, ?_⟩; (first | refine ⟨.bool _, rfl, ?_⟩ | refine ⟨.int _ _, rfl, ?_⟩ | refine ⟨.string _, rfl, ?_⟩ | refine ⟨.slice _ _ _, rfl, ?_⟩ | refine ⟨.pointer _, rfl, ?_⟩); refine ⟨rfl, _, _, rfl, ?_⟩; (first | refine ⟨_, _, _, .z, ?_⟩ | refine ⟨_, _, _, .s .z, ?_⟩ | refine ⟨_, _, _, .s (.s .z), ?_⟩); refine ⟨⟨_, rfl⟩, ?_⟩; (clear H; intro w1 H; simp only [List.set] at H); go_frame) | ((with_reducible refine (num_any A c l _ _ g w0 _ _ hr hc hm H).mono ?_); rintro _ w1 ⟨rfl, HQ⟩; replace H := HQ; clear HQ))
  go_end0
  exact ⟨rfl, H⟩
set_option maxHeartbeats 2000000 in
theorem rf_107 {x : St} {s : Ps} {t : Mg} {rs : List Rp} {y : List UInt8} (hx : x = ⟨s, t, rs, y⟩) (A : Option Addr) (c : Nat) (l : List UInt8) (g gm : Nat) (Ar : Option Addr) (cr : Nat) (By : Option Addr) (dy : Nat) (w0 w : World) (L : List Item) (hr : Rd w0 A l) (hc : l.length ≤ c) (hm : c ≤ maxLen) (H : Hp w0 w (rdI g A l.length c s :: mgI gm t rs y Ar cr By dy :: L)) :
    Calls Tryd.prog 45 #[.pointer (some ⟨g, 0, none⟩), .pointer (some ⟨gm, 0, none⟩), .int .i32 107] w (RetF w0 g gm A l.length c Ar cr By dy (fldP l 107 x) L) := by
  have e : fldP l 107 x = ⟨nS l s 1, { t with ck := nN l s 1 }, rs, y⟩ := by rw [hx]; rfl
  rw [e]
  clear e hx
  go_enter Tryd.func45, Tryd.ntmps45; go_wp2_with (first | ((with_reducible refine Hp.stv H ?_); refine ⟨rfl, ?_⟩; refine ⟨c_look rfl, ?_⟩; (first | refine ⟨.bool _, rfl, ?_⟩ | refine ⟨.int _ _, rfl, ?_⟩ | refine ⟨.string _, rfl, ?_⟩ | refine ⟨.slice _ _ _, rfl, ?_⟩ | refine ⟨.pointer _, rfl, ?_⟩); refine ⟨rfl, _, _, rfl, ?_⟩; (first | refine ⟨_, _, _, .z, ?_⟩ | refine ⟨_, _, _, .s .z, ?_⟩ | refine ⟨_, _, _, .s (.s .z), ?_⟩); refine ⟨⟨_, rfl⟩, ?_⟩; (clear H; intro w1 H; simp only [List.set] at H); go_frame) | ((with_reducible refine (num_any A c l _ _ g w0 _ _ hr hc hm H).mono ?_); rintro _ w1 ⟨rfl, HQ⟩; replace H := HQ; clear HQ))
  go_end0
  exact ⟨rfl, H⟩
set_option maxHeartbeats 2000000 in
theorem rf_109 {x : St} {s : Ps} {t : Mg} {rs : List Rp} {y : List UInt8} (hx : x = ⟨s, t, rs, y⟩) (A : Option Addr) (c : Nat) (l : List UInt8) (g gm : Nat) (Ar : Option Addr) (cr : Nat) (By : Option Addr) (dy : Nat) (w0 w : World) (L : List Item) (hr : Rd w0 A l) (hc : l.length ≤ c) (hm : c ≤ maxLen) (H : Hp w0 w (rdI g A l.length c s :: mgI gm t rs y Ar cr By dy :: L)) :
    Calls Tryd.prog 45 #[.pointer (some ⟨g, 0, none⟩), .pointer (some ⟨gm, 0, none⟩), .int .i32 109] w (RetF w0 g gm A l.length c Ar cr By dy (fldP l 109 x) L) := by
  have e : fldP l 109 x = ⟨nS l s 1, { t with ct := nN l s 1 }, rs, y⟩ := by rw [hx]; rfl
  rw [e]
  clear e hx
  go_enter Tryd.func45, Tryd.ntmps45; go_wp2_with (first | ((with_reducible refine Hp.stv H ?_); refine ⟨rfl, ?_⟩; refine ⟨c_look rfl, ?_⟩; (first | refine ⟨.bool _, rfl, ?_⟩ | refine ⟨.int _ _, rfl, ?_⟩ | refine ⟨.string _, rfl, ?_⟩ | refine ⟨.slice _ _ _, rfl, ?_⟩ | refine ⟨.pointer _, rfl, ?_⟩); refine ⟨rfl, _, _, rfl, ?_⟩; (first | refine ⟨_, _, _, .z, ?_⟩ | refine ⟨_, _, _, .s .z, ?_⟩ | refine ⟨_, _, _, .s (.s .z), ?_⟩); refine ⟨⟨_, rfl⟩, ?_⟩; (clear H; intro w1 H; simp only [List.set] at H); go_frame) | ((with_reducible refine (num_any A c l _ _ g w0 _ _ hr hc hm H).mono ?_); rintro _ w1 ⟨rfl, HQ⟩; replace H := HQ; clear HQ))
  go_end0
  exact ⟨rfl, H⟩
set_option maxHeartbeats 4000000 in
theorem rf_111 {x : St} {s : Ps} {t : Mg} {rs : List Rp} {y : List UInt8} (hx : x = ⟨s, t, rs, y⟩) (A : Option Addr) (c : Nat) (l : List UInt8) (g gm : Nat) (Ar : Option Addr) (cr : Nat) (By : Option Addr) (dy : Nat) (w0 w : World) (L : List Item) (hr : Rd w0 A l) (hc : l.length ≤ c) (hm : c ≤ maxLen) (H : Hp w0 w (rdI g A l.length c s :: mgI gm t rs y Ar cr By dy :: L)) :
    Calls Tryd.prog 45 #[.pointer (some ⟨g, 0, none⟩), .pointer (some ⟨gm, 0, none⟩), .int .i32 111] w (RetF w0 g gm A l.length c Ar cr By dy (fldP l 111 x) L) := by
  have e : fldP l 111 x = ⟨xP l (xP l (xP l (nS l s 1))), { t with ok := nN l s 1, o0 := xS l (nS l s 1), o1 := xS l (xP l (nS l s 1)), o2 := xS l (xP l (xP l (nS l s 1))) }, rs, y⟩ := by rw [hx]; rfl
  rw [e]
  clear e hx
  have hu := nN_byte l s
  have hw : IntKind.u8.wrap (nN l s 1) = nN l s 1 := by unfold IntKind.wrap; simp [IntKind.signed, IntKind.bits]; omega
  clear hu
  go_enter Tryd.func45, Tryd.ntmps45; go_wp2_with (first | ((with_reducible refine Hp.stv H ?_); refine ⟨rfl, ?_⟩; refine ⟨c_look rfl, ?_⟩; (first | refine ⟨.bool _, rfl, ?_⟩ | refine ⟨.int _ _, rfl, ?_⟩ | refine ⟨.string _, rfl, ?_⟩ | refine ⟨.slice _ _ _, rfl, ?_⟩ | refine ⟨.pointer _, rfl, ?_⟩); refine ⟨rfl, _, _, rfl, ?_⟩; (first | refine ⟨_, _, _, .z, ?_⟩ | refine ⟨_, _, _, .s .z, ?_⟩ | refine ⟨_, _, _, .s (.s .z), ?_⟩); refine ⟨⟨_, rfl⟩, ?_⟩; (clear H; intro w1 H; simp only [List.set] at H); go_frame) | ((with_reducible refine (num_any A c l _ _ g w0 _ _ hr hc hm H).mono ?_); rintro _ w1 ⟨rfl, HQ⟩; replace H := HQ; clear HQ) | ((with_reducible refine (txt_any A c l _ g w0 _ _ hr hc hm H).mono ?_); rintro _ w1 ⟨rfl, HQ⟩; replace H := HQ; clear HQ))
  go_end0
  exact ⟨rfl, H⟩
set_option maxHeartbeats 4000000 in
theorem rf_114 {x : St} {s : Ps} {t : Mg} {rs : List Rp} {y : List UInt8} (hx : x = ⟨s, t, rs, y⟩) (A : Option Addr) (c : Nat) (l : List UInt8) (g gm : Nat) (Ar : Option Addr) (cr : Nat) (By : Option Addr) (dy : Nat) (w0 w : World) (L : List Item) (hr : Rd w0 A l) (hc : l.length ≤ c) (hm : c ≤ maxLen) (H : Hp w0 w (rdI g A l.length c s :: mgI gm t rs y Ar cr By dy :: L)) :
    Calls Tryd.prog 45 #[.pointer (some ⟨g, 0, none⟩), .pointer (some ⟨gm, 0, none⟩), .int .i32 114] w (RetF w0 g gm A l.length c Ar cr By dy (fldP l 114 x) L) := by
  have hu := nN_byte l (nS l s 2)
  by_cases h : 1 < nN l (nS l s 2) 1
  · have e : fldP l 114 x = ⟨xP l (fP (nS l (nS l s 2) 1) 200), { t with re := nN l s 2, rf := nN l (nS l s 2) 1 == 1, rv := xS l (fP (nS l (nS l s 2) 1) 200) }, rs, y⟩ := by rw [hx]; show (⟨xP l (if 1 < nN l (nS l s 2) 1 then fP (nS l (nS l s 2) 1) 200 else nS l (nS l s 2) 1), _, rs, y⟩ : St) = _; rw [if_pos h]
    rw [e]
    clear e hx
    have d : decide (1 < nN l (nS l s 2) 1) = true := decide_eq_true h
    clear h hu
    go_enter Tryd.func45, Tryd.ntmps45; go_wp2_with (first | ((with_reducible refine Hp.stv H ?_); refine ⟨rfl, ?_⟩; refine ⟨c_look rfl, ?_⟩; (first | refine ⟨.bool _, rfl, ?_⟩ | refine ⟨.int _ _, rfl, ?_⟩ | refine ⟨.string _, rfl, ?_⟩ | refine ⟨.slice _ _ _, rfl, ?_⟩ | refine ⟨.pointer _, rfl, ?_⟩); refine ⟨rfl, _, _, rfl, ?_⟩; (first | refine ⟨_, _, _, .z, ?_⟩ | refine ⟨_, _, _, .s .z, ?_⟩ | refine ⟨_, _, _, .s (.s .z), ?_⟩); refine ⟨⟨_, rfl⟩, ?_⟩; (clear H; intro w1 H; simp only [List.set] at H); go_frame) | ((with_reducible refine (num_any A c l _ _ g w0 _ _ hr hc hm H).mono ?_); rintro _ w1 ⟨rfl, HQ⟩; replace H := HQ; clear HQ) | ((with_reducible refine (txt_any A c l _ g w0 _ _ hr hc hm H).mono ?_); rintro _ w1 ⟨rfl, HQ⟩; replace H := HQ; clear HQ) | ((with_reducible refine (fail_any g A l.length c _ 200 w0 _ _ H).mono ?_); rintro _ w1 ⟨rfl, HQ⟩; replace H := HQ; clear HQ))
    go_end0
    exact ⟨rfl, H⟩
  · have e : fldP l 114 x = ⟨xP l (nS l (nS l s 2) 1), { t with re := nN l s 2, rf := nN l (nS l s 2) 1 == 1, rv := xS l (nS l (nS l s 2) 1) }, rs, y⟩ := by rw [hx]; show (⟨xP l (if 1 < nN l (nS l s 2) 1 then fP (nS l (nS l s 2) 1) 200 else nS l (nS l s 2) 1), _, rs, y⟩ : St) = _; rw [if_neg h]
    rw [e]
    clear e hx
    have d : decide (1 < nN l (nS l s 2) 1) = false := decide_eq_false h
    clear h hu
    go_enter Tryd.func45, Tryd.ntmps45; go_wp2_with (first | ((with_reducible refine Hp.stv H ?_); refine ⟨rfl, ?_⟩; refine ⟨c_look rfl, ?_⟩; (first | refine ⟨.bool _, rfl, ?_⟩ | refine ⟨.int _ _, rfl, ?_⟩ | refine ⟨.string _, rfl, ?_⟩ | refine ⟨.slice _ _ _, rfl, ?_⟩ | refine ⟨.pointer _, rfl, ?_⟩); refine ⟨rfl, _, _, rfl, ?_⟩; (first | refine ⟨_, _, _, .z, ?_⟩ | refine ⟨_, _, _, .s .z, ?_⟩ | refine ⟨_, _, _, .s (.s .z), ?_⟩); refine ⟨⟨_, rfl⟩, ?_⟩; (clear H; intro w1 H; simp only [List.set] at H); go_frame) | ((with_reducible refine (num_any A c l _ _ g w0 _ _ hr hc hm H).mono ?_); rintro _ w1 ⟨rfl, HQ⟩; replace H := HQ; clear HQ) | ((with_reducible refine (txt_any A c l _ g w0 _ _ hr hc hm H).mono ?_); rintro _ w1 ⟨rfl, HQ⟩; replace H := HQ; clear HQ))
    go_end0
    exact ⟨rfl, H⟩
set_option maxHeartbeats 4000000 in
theorem rf_98 {x : St} {s : Ps} {t : Mg} {rs : List Rp} {y : List UInt8} (hx : x = ⟨s, t, rs, y⟩) (A : Option Addr) (c : Nat) (l : List UInt8) (g gm : Nat) (Ar : Option Addr) (cr : Nat) (By : Option Addr) (dy : Nat) (w0 w : World) (L : List Item) (hr : Rd w0 A l) (hc : l.length ≤ c) (hm : c ≤ maxLen) (H : Hp w0 w (rdI g A l.length c s :: mgI gm t rs y Ar cr By dy :: L)) :
    Calls Tryd.prog 45 #[.pointer (some ⟨g, 0, none⟩), .pointer (some ⟨gm, 0, none⟩), .int .i32 98] w (RetF w0 g gm A l.length c Ar cr By dy (fldP l 98 x) L) := by
  have e : fldP l 98 x = ⟨nS l (nS l s 6) 1, { t with br := nN l s 6, bp := nN l (nS l s 6) 1 }, rs, y⟩ := by rw [hx]; rfl
  rw [e]
  clear e hx
  go_enter Tryd.func45, Tryd.ntmps45; go_wp2_with (first | ((with_reducible refine (bal_any A c l _ g w0 _ _ hr hc hm H).mono ?_); rintro _ w1 ⟨rfl, HQ⟩; replace H := HQ; clear HQ) | ((with_reducible refine Hp.str H ?_); refine ⟨rfl, ?_⟩; refine ⟨_, s_look rfl, ?_⟩; refine ⟨_, _, rfl, baC _ _, rfl, rfl, ?_⟩; (first | refine ⟨_, _, _, .z, ?_⟩ | refine ⟨_, _, _, .s .z, ?_⟩ | refine ⟨_, _, _, .s (.s .z), ?_⟩); refine ⟨rfl, mgC (cpM { t with br := nN l s 6, bp := nN l (nS l s 6) 1 } rs y Ar cr By dy), rfl, _, rfl, Nat.le_of_ble_eq_true rfl, ?_⟩; (clear H; intro w1 H; simp only [List.set] at H); go_frame))
  go_end0
  exact ⟨rfl, H⟩
set_option maxHeartbeats 4000000 in
theorem rf_101 {x : St} {s : Ps} {t : Mg} {rs : List Rp} {y : List UInt8} (hx : x = ⟨s, t, rs, y⟩) (A : Option Addr) (c : Nat) (l : List UInt8) (g gm : Nat) (Ar : Option Addr) (cr : Nat) (By : Option Addr) (dy : Nat) (w0 w : World) (L : List Item) (hr : Rd w0 A l) (hc : l.length ≤ c) (hm : c ≤ maxLen) (H : Hp w0 w (rdI g A l.length c s :: mgI gm t rs y Ar cr By dy :: L)) :
    Calls Tryd.prog 45 #[.pointer (some ⟨g, 0, none⟩), .pointer (some ⟨gm, 0, none⟩), .int .i32 101] w (RetF w0 g gm A l.length c Ar cr By dy (fldP l 101 x) L) := by
  have e : fldP l 101 x = ⟨eP l s, { t with e := eV l s }, rs, y⟩ := by rw [hx]; rfl
  rw [e]
  clear e hx
  go_enter Tryd.func45, Tryd.ntmps45; go_wp2_with (first | ((with_reducible refine (ent_any A c l _ g w0 _ _ hr hc hm H).mono ?_); rintro _ w1 ⟨rfl, HQ⟩; replace H := HQ; clear HQ) | ((with_reducible refine Hp.str H ?_); refine ⟨rfl, ?_⟩; refine ⟨_, s_look rfl, ?_⟩; refine ⟨_, _, rfl, enC _, rfl, rfl, ?_⟩; (first | refine ⟨_, _, _, .z, ?_⟩ | refine ⟨_, _, _, .s .z, ?_⟩ | refine ⟨_, _, _, .s (.s .z), ?_⟩); refine ⟨rfl, mgC (cpM { t with e := eV l s } rs y Ar cr By dy), rfl, _, rfl, Nat.le_of_ble_eq_true rfl, ?_⟩; (clear H; intro w1 H; simp only [List.set] at H); go_frame))
  go_end0
  exact ⟨rfl, H⟩
/-- the bytes' letter -/
def RetY (w0 : World) (g gm : Nat) (A : Option Addr) (n c : Nat) (Ar : Option Addr) (cr : Nat) (s : Ps) (t : Mg) (rs : List Rp) (S : ByteArray) (L : List Item) (e : Ending) (w' : World) : Prop :=
  ∃ gy k, S.size + k ≤ maxLen ∧ e = .returned (.tuple #[]) ∧ Hp w0 w' (rdI g A n c s :: mgI gm t rs S.data.toList Ar cr (some ⟨gy, 0, none⟩) (S.size + k) :: .obj gy (cvO S k) :: L)
set_option maxHeartbeats 4000000 in
theorem rf_121 (s : Ps) (t : Mg) (rs : List Rp) (y : List UInt8) (A : Option Addr) (c : Nat) (l : List UInt8) (g gm : Nat) (Ar : Option Addr) (cr : Nat) (By : Option Addr) (dy : Nat) (w0 w : World) (L : List Item) (hr : Rd w0 A l) (hc : l.length ≤ c) (hm : c ≤ maxLen) (H : Hp w0 w (rdI g A l.length c s :: mgI gm t rs y Ar cr By dy :: L)) :
    Calls Tryd.prog 45 #[.pointer (some ⟨g, 0, none⟩), .pointer (some ⟨gm, 0, none⟩), .int .i32 121] w (RetY w0 g gm A l.length c Ar cr (xP l s) t rs (xS l s) L) := by
  have hsz : (xS l s).size ≤ maxLen := by
    have h : (readS l s.at_).length ≤ l.length := by unfold readS; split <;> simp; omega
    show (readS l s.at_).length ≤ maxLen
    omega
  go_enter Tryd.func45, Tryd.ntmps45; go_wp2_with (first | ((with_reducible refine Hp.stv H ?_); refine ⟨rfl, ?_⟩; refine ⟨c_look rfl, ?_⟩; (first | refine ⟨.bool _, rfl, ?_⟩ | refine ⟨.int _ _, rfl, ?_⟩ | refine ⟨.string _, rfl, ?_⟩ | refine ⟨.slice _ _ _, rfl, ?_⟩ | refine ⟨.pointer _, rfl, ?_⟩); refine ⟨rfl, _, _, rfl, ?_⟩; (first | refine ⟨_, _, _, .z, ?_⟩ | refine ⟨_, _, _, .s .z, ?_⟩ | refine ⟨_, _, _, .s (.s .z), ?_⟩); refine ⟨⟨_, rfl⟩, ?_⟩; (clear H; intro w1 H; simp only [List.set] at H); go_frame) | ((with_reducible refine (txt_any A c l _ g w0 _ _ hr hc hm H).mono ?_); rintro _ w1 ⟨rfl, HQ⟩; replace H := HQ; clear HQ) | ((with_reducible refine Hp.cvB H ?_); refine ⟨rfl, xS l s, rfl, hsz, ?_⟩; (clear H; intro gy k w1 hk H); (replace H := H.rot3); go_frame))
  go_end0
  exact ⟨gy, k, hk, rfl, H⟩
end Go.Proofs.YtajgikjmoeemnaaDoor
