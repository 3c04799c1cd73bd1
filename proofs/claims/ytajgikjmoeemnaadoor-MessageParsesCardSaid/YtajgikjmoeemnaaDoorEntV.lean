/-
  THE WALKS OF THE REFERENCE's Read, Parse.
-/
import Derived.Test.YtajgikjmoeemnaaDoorEntT
import Derived.Test.YtajgikjmoeemnaaDoorEntU
import Derived.Test.YtajgikjmoeemnaaDoorEntD
namespace Go.Proofs.YtajgikjmoeemnaaDoor
set_option maxRecDepth 100000
open Go.RowKit
set_option linter.unusedVariables false
set_option linter.unusedSimpArgs false
theorem retER_of {l : List UInt8} {a : Int} {w w' : World} {E : En} {N X : Int} (h1 : erE l a = X) (h2 : erN l a = N) (h3 : erV l a = E) (hb : Below w.heap.size w w') : RetER l a w (.returned (.tuple #[.agg (enC E).toArray, .int .i64 N, .int .i64 X])) w' := by
  subst h1 h2 h3
  exact ⟨rfl, hb⟩
theorem z_A3 : zeroC Tryd.prog 132 = some [es, es, es].toArray := by kernel_rfl
theorem b_en1 : Tryd.prog.built 27 [(0, .int .u8 1)] = some (enC ⟨1, 0, 0, 0, .empty, .empty, .empty⟩).toArray := by kernel_rfl
theorem b_en2 (c : Int) : Tryd.prog.built 27 [(0, .int .u8 2), (1, .int .i64 c)] = some (enC ⟨2, c, 0, 0, .empty, .empty, .empty⟩).toArray := by kernel_rfl
set_option maxHeartbeats 2000000 in
theorem rread_out (A : Option Addr) (c : Nat) (l : List UInt8) (a : Int) (w : World) (hc : l.length ≤ c) (hm : c ≤ maxLen) (h : a < 0 ∨ (l.length : Int) < a) :
    Calls Tryd.prog 88 #[.slice A l.length c, .int .i64 a] w (RetER l a w) := by
  have H := Hp.nil w
  have e1 : erE l a = 2 := by unfold erE; rw [if_pos h]
  have e2 : erN l a = 0 := by unfold erN; rw [e1]; rfl
  have e3 : erV l a = en0 := by unfold erV; rw [e1]; rfl
  have HX := Lib.hid e1
  have HN := Lib.hid e2
  have HV := Lib.hid e3
  clear e1 e2 e3
  by_cases h0 : a < 0
  · go_enter Tryd.func88, Tryd.ntmps88
    go_wp2_with (first | ((with_reducible refine Hp.allo (ty := 27) H ?_); refine ⟨rfl, ?_⟩; refine ⟨_, z_look rfl, ?_⟩; (clear H; intro gE w1 H); go_frame) | ((with_reducible refine Hp.sta H ?_); refine ⟨rfl, ?_⟩; refine ⟨_, s_look rfl, ?_⟩; refine ⟨_, rfl, _, rfl, rfl, ?_⟩; ((repeat ((fail_if_success refine ⟨_, _, _, .z, ?_⟩); refine hs ?_)); refine ⟨_, _, _, .z, ?_⟩); refine ⟨rfl, rfl, ?_⟩; (clear H; intro w1 H; simp only [List.set] at H); go_frame) | ((with_reducible refine Hp.bdl (t := 27) (parts := []) H ?_); refine ⟨rfl, _, b_en0d, ?_⟩; go_frame))
    exact bodyPost_ret (v := .tuple #[.agg (enC en0).toArray, .int .i64 0, .int .i64 2]) (results_ctt rfl rfl (H.var (by kernel_rfl) (t := 27) (cs := enC en0) .z s_Entry) rfl rfl) rfl (retER_of HX.out HN.out HV.out H.below)
  · have d0 : decide (a < 0) = false := decide_eq_false h0
    have d1 : (l.length : Int) < a := h.resolve_left h0
    clear h h0
    go_enter Tryd.func88, Tryd.ntmps88
    go_wp2_with (first | ((with_reducible refine Hp.allo (ty := 27) H ?_); refine ⟨rfl, ?_⟩; refine ⟨_, z_look rfl, ?_⟩; (clear H; intro gE w1 H); go_frame) | ((with_reducible refine Hp.sta H ?_); refine ⟨rfl, ?_⟩; refine ⟨_, s_look rfl, ?_⟩; refine ⟨_, rfl, _, rfl, rfl, ?_⟩; ((repeat ((fail_if_success refine ⟨_, _, _, .z, ?_⟩); refine hs ?_)); refine ⟨_, _, _, .z, ?_⟩); refine ⟨rfl, rfl, ?_⟩; (clear H; intro w1 H; simp only [List.set] at H); go_frame) | ((with_reducible refine Hp.bdl (t := 27) (parts := []) H ?_); refine ⟨rfl, _, b_en0d, ?_⟩; go_frame))
    exact bodyPost_ret (v := .tuple #[.agg (enC en0).toArray, .int .i64 0, .int .i64 2]) (results_ctt rfl rfl (H.var (by kernel_rfl) (t := 27) (cs := enC en0) .z s_Entry) rfl rfl) rfl (retER_of HX.out HN.out HV.out H.below)
set_option maxHeartbeats 2000000 in
theorem rread_end (A : Option Addr) (c : Nat) (l : List UInt8) (w : World) (hc : l.length ≤ c) (hm : c ≤ maxLen) :
    Calls Tryd.prog 88 #[.slice A l.length c, .int .i64 (l.length : Int)] w (RetER l l.length w) := by
  have H := Hp.nil w
  obtain ⟨e1, e2, e3⟩ : erE l l.length = 90 ∧ erN l l.length = 0 ∧ erV l l.length = en0 := by
    have h1 : getE l l.length 1 = 10 := by simp [getE, isWidth]
    have hb : gB l ⟨l.length, false⟩ 1 = true := by unfold gB; rw [h1]; rfl
    have hk : rdK l l.length = 0 := by unfold rdK gN; rw [hb]; rfl
    have hr : (mR l l.length).bad = true := by
      unfold mR
      rw [hk, if_neg (by decide)]
      unfold r1 gR
      rw [hb]
      rfl
    exact er_bad (k := l.length) (Nat.le_refl _) (by rw [hr]; rfl)
  have HX := Lib.hid e1
  have HN := Lib.hid e2
  have HV := Lib.hid e3
  clear e1 e2 e3
  have d0 : decide ((l.length : Int) < 0) = false := decide_eq_false (by omega)
  go_enter Tryd.func88, Tryd.ntmps88
  go_wp2_with (first | ((with_reducible refine Hp.allo (ty := 27) H ?_); refine ⟨rfl, ?_⟩; refine ⟨_, z_look rfl, ?_⟩; (clear H; intro gE w1 H); go_frame) | ((with_reducible refine Hp.sta H ?_); refine ⟨rfl, ?_⟩; refine ⟨_, s_look rfl, ?_⟩; refine ⟨_, rfl, _, rfl, rfl, ?_⟩; ((repeat ((fail_if_success refine ⟨_, _, _, .z, ?_⟩); refine hs ?_)); refine ⟨_, _, _, .z, ?_⟩); refine ⟨rfl, rfl, ?_⟩; (clear H; intro w1 H; simp only [List.set] at H); go_frame) | ((with_reducible refine Hp.bdl (t := 27) (parts := []) H ?_); refine ⟨rfl, _, b_en0d, ?_⟩; go_frame))
  exact bodyPost_ret (v := .tuple #[.agg (enC en0).toArray, .int .i64 0, .int .i64 90]) (results_ctt rfl rfl (H.var (by kernel_rfl) (t := 27) (cs := enC en0) .z s_Entry) rfl rfl) rfl (retER_of HX.out HN.out HV.out H.below)
set_option maxHeartbeats 2000000 in
theorem rread_one (b o : Nat) (c : Nat) (l : List UInt8) (k : Nat) (w : World) (hr : ∀ (i : Nat) (h : i < l.length), w.cell? ⟨b, o + i, none⟩ = some (.int .u8 (l[i].toNat : Int))) (hc : l.length ≤ c) (hm : c ≤ maxLen) (hk : k < l.length) (h1 : l[k].toNat = 1) :
    Calls Tryd.prog 88 #[.slice (some ⟨b, o, none⟩) l.length c, .int .i64 (k : Int)] w (RetER l k w) := by
  have H := Hp.nil w
  have hcell := hr k hk
  rw [h1] at hcell
  obtain ⟨e1, e2, e3⟩ := er_one hk h1
  have HX := Lib.hid e1
  have HN := Lib.hid e2
  have HV := Lib.hid e3
  clear e1 e2 e3 h1 hr
  unfold maxLen at hm
  have d0 : decide ((k : Int) < 0) = false := decide_eq_false (by omega)
  have d1 : decide (l.length < k) = false := decide_eq_false (by omega)
  have d2 : ((k : Int) == l.length) = false := beq_eq_false_iff_ne.mpr (by omega)
  go_enter Tryd.func88, Tryd.ntmps88
  go_wp2_with (first | ((with_reducible refine Hp.allo (ty := 27) H ?_); refine ⟨rfl, ?_⟩; refine ⟨_, z_look rfl, ?_⟩; (clear H; intro gE w1 H); go_frame) | ((with_reducible refine Hp.sta H ?_); refine ⟨rfl, ?_⟩; refine ⟨_, s_look rfl, ?_⟩; refine ⟨_, rfl, _, rfl, rfl, ?_⟩; ((repeat ((fail_if_success refine ⟨_, _, _, .z, ?_⟩); refine hs ?_)); refine ⟨_, _, _, .z, ?_⟩); refine ⟨rfl, rfl, ?_⟩; (clear H; intro w1 H; simp only [List.set] at H); go_frame) | ((with_reducible refine Hp.bdl (t := 27) (parts := [_]) H ?_); refine ⟨rfl, _, b_en1, ?_⟩; go_frame) | ((with_reducible refine Hp.ldo H ?_); refine ⟨rfl, ?_⟩; refine ⟨c_look rfl, ?_⟩; refine ⟨_, rfl, ?_⟩; refine ⟨_, ‹_›, ?_⟩; go_frame))
  exact bodyPost_ret (v := .tuple #[.agg (enC ⟨1, 0, 0, 0, .empty, .empty, .empty⟩).toArray, .int .i64 ((k : Int) + 1), .int .i64 0]) (results_ctt rfl rfl (H.var (by kernel_rfl) (t := 27) (cs := enC ⟨1, 0, 0, 0, .empty, .empty, .empty⟩) .z s_Entry) rfl rfl) rfl (retER_of HX.out HN.out HV.out H.below)
set_option maxHeartbeats 2000000 in
theorem rread_other (b o : Nat) (c : Nat) (l : List UInt8) (k : Nat) (w : World) (hr : ∀ (i : Nat) (h : i < l.length), w.cell? ⟨b, o + i, none⟩ = some (.int .u8 (l[i].toNat : Int))) (hc : l.length ≤ c) (hm : c ≤ maxLen) (hk : k < l.length) (h1 : l[k].toNat ≠ 1) (h2 : l[k].toNat ≠ 2) :
    Calls Tryd.prog 88 #[.slice (some ⟨b, o, none⟩) l.length c, .int .i64 (k : Int)] w (RetER l k w) := by
  have H := Hp.nil w
  have hcell := hr k hk
  obtain ⟨e1, e2, e3⟩ := er_other hk h1 h2
  obtain ⟨K, hK⟩ : ∃ K, l[k].toNat = K := ⟨_, rfl⟩
  rw [hK] at hcell h1 h2
  have q1 : ((K : Int) == 1) = false := beq_eq_false_iff_ne.mpr (by omega)
  have q2 : ((K : Int) != 2) = true := bne_iff_ne.mpr (by omega)
  have HX := Lib.hid e1
  have HN := Lib.hid e2
  have HV := Lib.hid e3
  clear e1 e2 e3 h1 h2 hr hK
  unfold maxLen at hm
  have d0 : decide ((k : Int) < 0) = false := decide_eq_false (by omega)
  have d1 : decide (l.length < k) = false := decide_eq_false (by omega)
  have d2 : ((k : Int) == l.length) = false := beq_eq_false_iff_ne.mpr (by omega)
  go_enter Tryd.func88, Tryd.ntmps88
  go_wp2_with (first | ((with_reducible refine Hp.allo (ty := 27) H ?_); refine ⟨rfl, ?_⟩; refine ⟨_, z_look rfl, ?_⟩; (clear H; intro gE w1 H); go_frame) | ((with_reducible refine Hp.sta H ?_); refine ⟨rfl, ?_⟩; refine ⟨_, s_look rfl, ?_⟩; refine ⟨_, rfl, _, rfl, rfl, ?_⟩; ((repeat ((fail_if_success refine ⟨_, _, _, .z, ?_⟩); refine hs ?_)); refine ⟨_, _, _, .z, ?_⟩); refine ⟨rfl, rfl, ?_⟩; (clear H; intro w1 H; simp only [List.set] at H); go_frame) | ((with_reducible refine Hp.bdl (t := 27) (parts := []) H ?_); refine ⟨rfl, _, b_en0d, ?_⟩; go_frame) | ((with_reducible refine Hp.ldo H ?_); refine ⟨rfl, ?_⟩; refine ⟨c_look rfl, ?_⟩; refine ⟨_, rfl, ?_⟩; refine ⟨_, ‹_›, ?_⟩; go_frame))
  exact bodyPost_ret (v := .tuple #[.agg (enC en0).toArray, .int .i64 0, .int .i64 90]) (results_ctt rfl rfl (H.var (by kernel_rfl) (t := 27) (cs := enC en0) .z s_Entry) rfl rfl) rfl (retER_of HX.out HN.out HV.out H.below)
set_option maxHeartbeats 2000000 in
theorem rread_few (b o : Nat) (c : Nat) (l : List UInt8) (k : Nat) (w : World) (hr : ∀ (i : Nat) (h : i < l.length), w.cell? ⟨b, o + i, none⟩ = some (.int .u8 (l[i].toNat : Int))) (hc : l.length ≤ c) (hm : c ≤ maxLen) (hk : k < l.length) (h2 : l[k].toNat = 2) (h9 : l.length < k + 9) :
    Calls Tryd.prog 88 #[.slice (some ⟨b, o, none⟩) l.length c, .int .i64 (k : Int)] w (RetER l k w) := by
  have H := Hp.nil w
  have hcell := hr k hk
  rw [h2] at hcell
  obtain ⟨e1, e2, e3⟩ := er_few hk h2 h9
  have HX := Lib.hid e1
  have HN := Lib.hid e2
  have HV := Lib.hid e3
  clear e1 e2 e3 h2 hr
  unfold maxLen at hm
  have d0 : decide ((k : Int) < 0) = false := decide_eq_false (by omega)
  have d1 : decide (l.length < k) = false := decide_eq_false (by omega)
  have d2 : ((k : Int) == l.length) = false := beq_eq_false_iff_ne.mpr (by omega)
  have d3 : decide ((l.length : Int) - k < 9) = true := decide_eq_true (by omega)
  go_enter Tryd.func88, Tryd.ntmps88
  go_wp2_with (first | ((with_reducible refine Hp.allo (ty := 27) H ?_); refine ⟨rfl, ?_⟩; refine ⟨_, z_look rfl, ?_⟩; (clear H; intro gE w1 H); go_frame) | ((with_reducible refine Hp.sta H ?_); refine ⟨rfl, ?_⟩; refine ⟨_, s_look rfl, ?_⟩; refine ⟨_, rfl, _, rfl, rfl, ?_⟩; ((repeat ((fail_if_success refine ⟨_, _, _, .z, ?_⟩); refine hs ?_)); refine ⟨_, _, _, .z, ?_⟩); refine ⟨rfl, rfl, ?_⟩; (clear H; intro w1 H; simp only [List.set] at H); go_frame) | ((with_reducible refine Hp.bdl (t := 27) (parts := []) H ?_); refine ⟨rfl, _, b_en0d, ?_⟩; go_frame) | ((with_reducible refine Hp.ldo H ?_); refine ⟨rfl, ?_⟩; refine ⟨c_look rfl, ?_⟩; refine ⟨_, rfl, ?_⟩; refine ⟨_, ‹_›, ?_⟩; go_frame))
  exact bodyPost_ret (v := .tuple #[.agg (enC en0).toArray, .int .i64 0, .int .i64 90]) (results_ctt rfl rfl (H.var (by kernel_rfl) (t := 27) (cs := enC en0) .z s_Entry) rfl rfl) rfl (retER_of HX.out HN.out HV.out H.below)
theorem rread_v {A : Option Addr} {c : Nat} {l : List UInt8} {P : Int} {w : World} {T : ByteArray} {N X : Int} (h1 : bs (readS l P) = T) (h2 : readP l P = N) (h3 : readE l P = X) (hr : Rd w A l) (hc : l.length ≤ c) (hm : c ≤ maxLen) :
    Calls Tryd.prog 95 #[.slice A l.length c, .int .i64 P] w fun e w' => e = .returned (.tuple #[.string T, .int .i64 N, .int .i64 X]) ∧ w = w' := by
  subst h1 h2 h3
  exact rread_any A c l P w hr hc hm
theorem rget_v {A : Option Addr} {c : Nat} {l : List UInt8} {P W : Int} {w : World} {S N X : Int} (h1 : getN l P W = S) (h2 : getP l P W = N) (h3 : getE l P W = X) (hr : Rd w A l) (hc : l.length ≤ maxLen) :
    Calls Tryd.prog 94 #[.slice A l.length c, .int .i64 P, .int .i64 W] w fun e w' => e = .returned (.tuple #[.int .i64 S, .int .i64 N, .int .i64 X]) ∧ w = w' := by
  subst h1 h2 h3
  exact rget_any A c l P W w hr hc
set_option maxRecDepth 100000 in
set_option maxHeartbeats 4000000 in
theorem rread_many (b o : Nat) (c : Nat) (l : List UInt8) (k : Nat) (w : World) (hrd : Rd w (some ⟨b, o, none⟩) l) (hr : ∀ (i : Nat) (h : i < l.length), w.cell? ⟨b, o + i, none⟩ = some (.int .u8 (l[i].toNat : Int))) (hc : l.length ≤ c) (hm' : c ≤ maxLen) (h9 : k + 9 ≤ l.length) (h2 : (l[k]'(by omega)).toNat = 2) :
    Calls Tryd.prog 88 #[.slice (some ⟨b, o, none⟩) l.length c, .int .i64 (k : Int)] w (RetER l k w) := by
  have H := Hp.nil w
  have hlm : l.length ≤ maxLen := Nat.le_trans hc hm'
  have hcell := hr k (by omega)
  rw [h2] at hcell
  have hcell1 := hr (k + 1) (by omega)
  have hcell8 := hr (k + 8) (by omega)
  obtain ⟨hR, hE⟩ := er_many h9 h2
  have hC256 := (l[k + 1]'(by omega)).toNat_lt
  have hO256 := (l[k + 8]'(by omega)).toNat_lt
  obtain ⟨C, hC⟩ : ∃ C, (l[k + 1]'(by omega)).toNat = C := ⟨_, rfl⟩
  obtain ⟨O, hO⟩ : ∃ C, (l[k + 8]'(by omega)).toNat = C := ⟨_, rfl⟩
  rw [hC] at hcell1 hE hC256
  rw [hO] at hcell8 hE hO256
  obtain ⟨S, hS⟩ : ∃ S, getN l ((k : Int) + 2) 6 = S := ⟨_, rfl⟩
  rw [hS] at hE
  have HS := Lib.hid hS
  have HSP := Lib.hid (show getP l ((k : Int) + 2) 6 = _ from rfl)
  have HSE := Lib.hid (show getE l ((k : Int) + 2) 6 = _ from rfl)
  obtain ⟨T0, hT0⟩ : ∃ x, bs (readS l ((k : Int) + 9)) = x := ⟨_, rfl⟩
  obtain ⟨P1, hP1⟩ : ∃ x, readP l ((k : Int) + 9) = x := ⟨_, rfl⟩
  obtain ⟨X0, hX0⟩ : ∃ x, readE l ((k : Int) + 9) = x := ⟨_, rfl⟩
  have HT0 := Lib.hid hT0
  have HP1 := Lib.hid hP1
  have HX0 := Lib.hid hX0
  have hw : IntKind.i64.wrap (C : Int) = C := IntWalk.i64_in _ (by omega)
  have hm := hm'
  unfold maxLen at hm
  have d0 : decide ((k : Int) < 0) = false := decide_eq_false (by omega)
  have d1 : decide (l.length < k) = false := decide_eq_false (by omega)
  have d2 : ((k : Int) == l.length) = false := beq_eq_false_iff_ne.mpr (by omega)
  have d3 : decide ((l.length : Int) - k < 9) = false := decide_eq_false (by omega)
  have HRR := Lib.hid hR
  have HEE := Lib.hid hE
  clear hR hE hS hT0 hP1 hX0 hC hO h2 hr
  by_cases hx0 : X0 = 0
  · have hq0 : (X0 != 0) = false := by rw [hx0]; rfl
    have g0 := tR_yes (l := l) (P := (k : Int) + 9) (HX0.out.trans hx0)
    rw [HP1.out] at g0
    obtain ⟨T1, hT1⟩ : ∃ x, bs (readS l P1) = x := ⟨_, rfl⟩
    obtain ⟨P2, hP2⟩ : ∃ x, readP l P1 = x := ⟨_, rfl⟩
    obtain ⟨X1, hX1⟩ : ∃ x, readE l P1 = x := ⟨_, rfl⟩
    have HT1 := Lib.hid hT1
    have HP2 := Lib.hid hP2
    have HX1 := Lib.hid hX1
    have HG0 : Hid (tR l ⟨((k + 9 : Nat) : Int), false⟩ = ⟨P1, false⟩) := Lib.hid g0.1
    have HS0 : Hid (bs (tS l ⟨((k + 9 : Nat) : Int), false⟩) = T0) := Lib.hid (by rw [← HT0.out]; exact congrArg bs g0.2)
    clear g0 hT1 hP2 hX1
    by_cases hx1 : X1 = 0
    · have hq1 : (X1 != 0) = false := by rw [hx1]; rfl
      have g1 := tR_yes (l := l) (P := P1) (HX1.out.trans hx1)
      rw [HP2.out] at g1
      obtain ⟨T2, hT2⟩ : ∃ x, bs (readS l P2) = x := ⟨_, rfl⟩
      obtain ⟨P3, hP3⟩ : ∃ x, readP l P2 = x := ⟨_, rfl⟩
      obtain ⟨X2, hX2⟩ : ∃ x, readE l P2 = x := ⟨_, rfl⟩
      have HT2 := Lib.hid hT2
      have HP3 := Lib.hid hP3
      have HX2 := Lib.hid hX2
      have HG1 : Hid (tR l ⟨P1, false⟩ = ⟨P2, false⟩) := Lib.hid g1.1
      have HS1 : Hid (bs (tS l ⟨P1, false⟩) = T1) := Lib.hid (by rw [← HT1.out]; exact congrArg bs g1.2)
      clear g1 hT2 hP3 hX2
      by_cases hx2 : X2 = 0
      · have hq2 : (X2 != 0) = false := by rw [hx2]; rfl
        have g2 := tR_yes (l := l) (P := P2) (HX2.out.trans hx2)
        rw [HP3.out] at g2
        have hM : mR l k = ⟨P3, false⟩ := by rw [HRR.out, HG0.out, HG1.out, g2.1]
        have hEE := HEE.out
        have hsm := sm_bs hlm 2 C S O ⟨((k + 9 : Nat) : Int), false⟩ (tR l ⟨((k + 9 : Nat) : Int), false⟩) (tR l (tR l ⟨((k + 9 : Nat) : Int), false⟩))
        rw [HG0.out, HG1.out, HS0.out, HS1.out, congrArg bs g2.2, HT2.out] at hEE hsm
        have HM := Lib.hid hM
        have HE2 := Lib.hid hEE
        clear g2 hM hEE
        have hx0 := True.intro
        have hx1 := True.intro
        have hx2 := True.intro
        cases hmay : mayB ⟨2, C, S, O, T0, T1, T2⟩
        · have hbb := er_bad (l := l) (k := k) (by omega) (by rw [HM.out, HE2.out, hmay]; rfl)
          have HB1 := Lib.hid hbb
          clear hbb
          (go_enter Tryd.func88, Tryd.ntmps88; go_wp2_with (first | ((with_reducible refine Hp.allo (ty := 27) H ?_); refine ⟨rfl, ?_⟩; refine ⟨_, z_look rfl, ?_⟩; (clear H; intro gE w1 H); go_frame) | ((with_reducible refine Hp.allo (ty := 132) H ?_); refine ⟨rfl, ?_⟩; refine ⟨_, z_A3, ?_⟩; (clear H; intro gp w1 H); go_frame) | ((with_reducible refine Hp.stv H ?_); refine ⟨rfl, ?_⟩; refine ⟨c_look rfl, ?_⟩; (first | refine ⟨.bool _, rfl, ?_⟩ | refine ⟨.int _ _, rfl, ?_⟩ | refine ⟨.string _, rfl, ?_⟩ | refine ⟨.slice _ _ _, rfl, ?_⟩ | refine ⟨.pointer _, rfl, ?_⟩); refine ⟨rfl, _, _, rfl, ?_⟩; ((repeat ((fail_if_success refine ⟨_, _, _, .z, ?_⟩); refine hs ?_)); refine ⟨_, _, _, .z, ?_⟩); refine ⟨⟨_, rfl⟩, ?_⟩; (clear H; intro w1 H; simp only [List.set] at H); go_frame) | ((with_reducible refine Hp.sta H ?_); refine ⟨rfl, ?_⟩; refine ⟨_, s_look rfl, ?_⟩; refine ⟨_, rfl, _, rfl, rfl, ?_⟩; ((repeat ((fail_if_success refine ⟨_, _, _, .z, ?_⟩); refine hs ?_)); refine ⟨_, _, _, .z, ?_⟩); refine ⟨rfl, rfl, ?_⟩; (clear H; intro w1 H; simp only [List.set] at H); go_frame) | ((with_reducible refine Hp.bdl (t := 27) (parts := [_, _]) H ?_); refine ⟨rfl, _, b_en2 _, ?_⟩; go_frame) | ((with_reducible refine Hp.ldo H ?_); refine ⟨rfl, ?_⟩; refine ⟨c_look rfl, ?_⟩; refine ⟨_, rfl, ?_⟩; refine ⟨_, ‹_›, ?_⟩; go_frame) | ((with_reducible refine (rget_v HS.out HSP.out HSE.out (hrd.below H.below) hlm).mono ?_); rintro _ w2 ⟨rfl, rfl⟩)); refine wp_loop_rounds 4 ?_; rw [rounds_succ]; go_wp2_with (first | (fail)); ((with_reducible refine (rread_v HT0.out HP1.out HX0.out (hrd.below H.below) hc hm').mono ?_); rintro _ w2 ⟨rfl, rfl⟩); go_wp2_with (first | ((with_reducible refine Hp.stv H ?_); refine ⟨rfl, ?_⟩; refine ⟨c_look rfl, ?_⟩; (first | refine ⟨.bool _, rfl, ?_⟩ | refine ⟨.int _ _, rfl, ?_⟩ | refine ⟨.string _, rfl, ?_⟩ | refine ⟨.slice _ _ _, rfl, ?_⟩ | refine ⟨.pointer _, rfl, ?_⟩); refine ⟨rfl, _, _, rfl, ?_⟩; ((repeat ((fail_if_success refine ⟨_, _, _, .z, ?_⟩); refine hs ?_)); refine ⟨_, _, _, .z, ?_⟩); refine ⟨⟨_, rfl⟩, ?_⟩; (clear H; intro w1 H; simp only [List.set] at H); go_frame)))
          rw [rounds_succ]
          go_wp2_with (first | (fail))
          ((with_reducible refine (rread_v HT1.out HP2.out HX1.out (hrd.below H.below) hc hm').mono ?_); rintro _ w2 ⟨rfl, rfl⟩)
          go_wp2_with (first | ((with_reducible refine Hp.stv H ?_); refine ⟨rfl, ?_⟩; refine ⟨c_look rfl, ?_⟩; (first | refine ⟨.bool _, rfl, ?_⟩ | refine ⟨.int _ _, rfl, ?_⟩ | refine ⟨.string _, rfl, ?_⟩ | refine ⟨.slice _ _ _, rfl, ?_⟩ | refine ⟨.pointer _, rfl, ?_⟩); refine ⟨rfl, _, _, rfl, ?_⟩; ((repeat ((fail_if_success refine ⟨_, _, _, .z, ?_⟩); refine hs ?_)); refine ⟨_, _, _, .z, ?_⟩); refine ⟨⟨_, rfl⟩, ?_⟩; (clear H; intro w1 H; simp only [List.set] at H); go_frame))
          rw [rounds_succ]
          go_wp2_with (first | (fail))
          ((with_reducible refine (rread_v HT2.out HP3.out HX2.out (hrd.below H.below) hc hm').mono ?_); rintro _ w2 ⟨rfl, rfl⟩)
          go_wp2_with (first | ((with_reducible refine Hp.stv H ?_); refine ⟨rfl, ?_⟩; refine ⟨c_look rfl, ?_⟩; (first | refine ⟨.bool _, rfl, ?_⟩ | refine ⟨.int _ _, rfl, ?_⟩ | refine ⟨.string _, rfl, ?_⟩ | refine ⟨.slice _ _ _, rfl, ?_⟩ | refine ⟨.pointer _, rfl, ?_⟩); refine ⟨rfl, _, _, rfl, ?_⟩; ((repeat ((fail_if_success refine ⟨_, _, _, .z, ?_⟩); refine hs ?_)); refine ⟨_, _, _, .z, ?_⟩); refine ⟨⟨_, rfl⟩, ?_⟩; (clear H; intro w1 H; simp only [List.set] at H); go_frame))
          rw [rounds_succ]
          go_wp2_with (first | ((with_reducible refine Hp.ld H ?_); refine ⟨rfl, ?_⟩; refine ⟨c_look rfl, ?_⟩; refine ⟨_, _, rfl, ?_⟩; ((repeat ((fail_if_success refine ⟨_, _, _, .z, ?_⟩); refine hs ?_)); refine ⟨_, _, _, .z, ?_⟩); refine ⟨_, rfl, ?_⟩; go_frame) | ((with_reducible refine Hp.lda H ?_); refine ⟨rfl, by kernel_rfl, ?_⟩; refine ⟨_, s_look rfl, ?_⟩; refine ⟨_, rfl, ?_⟩; ((repeat ((fail_if_success refine ⟨_, _, _, .z, ?_⟩); refine hs ?_)); refine ⟨_, _, _, .z, ?_⟩); refine ⟨rfl, ?_⟩; go_frame) | ((with_reducible refine Hp.stv H ?_); refine ⟨rfl, ?_⟩; refine ⟨c_look rfl, ?_⟩; (first | refine ⟨.bool _, rfl, ?_⟩ | refine ⟨.int _ _, rfl, ?_⟩ | refine ⟨.string _, rfl, ?_⟩ | refine ⟨.slice _ _ _, rfl, ?_⟩ | refine ⟨.pointer _, rfl, ?_⟩); refine ⟨rfl, _, _, rfl, ?_⟩; ((repeat ((fail_if_success refine ⟨_, _, _, .z, ?_⟩); refine hs ?_)); refine ⟨_, _, _, .z, ?_⟩); refine ⟨⟨_, rfl⟩, ?_⟩; (clear H; intro w1 H; simp only [List.set] at H); go_frame))
          refine (rmay_b ⟨2, C, S, O, T0, T1, T2⟩ _ _ hmay hsm).mono ?_
          rintro _ w1 ⟨rfl, hb⟩; replace H := H.call hb; clear hb
          go_wp2_with (first | ((with_reducible refine Hp.sta H ?_); refine ⟨rfl, ?_⟩; refine ⟨_, s_look rfl, ?_⟩; refine ⟨_, rfl, _, rfl, rfl, ?_⟩; ((repeat ((fail_if_success refine ⟨_, _, _, .z, ?_⟩); refine hs ?_)); refine ⟨_, _, _, .z, ?_⟩); refine ⟨rfl, rfl, ?_⟩; (clear H; intro w1 H; simp only [List.set] at H); go_frame) | ((with_reducible refine Hp.bdl (t := 27) (parts := []) H ?_); refine ⟨rfl, _, b_en0d, ?_⟩; go_frame))
          exact bodyPost_ret (v := .tuple #[.agg (enC en0).toArray, .int .i64 0, .int .i64 90]) (results_ctt rfl rfl (H.var (by kernel_rfl) (t := 27) (cs := enC en0) (.s (.s .z)) s_Entry) rfl rfl) rfl (retER_of HB1.out.1 HB1.out.2.1 HB1.out.2.2 H.below)
        · have hbb := er_good (l := l) (k := k) (by omega) (by rw [HM.out, HE2.out, hmay]; rfl)
          rw [HM.out, HE2.out] at hbb
          have HB1 := Lib.hid hbb
          clear hbb
          (go_enter Tryd.func88, Tryd.ntmps88; go_wp2_with (first | ((with_reducible refine Hp.allo (ty := 27) H ?_); refine ⟨rfl, ?_⟩; refine ⟨_, z_look rfl, ?_⟩; (clear H; intro gE w1 H); go_frame) | ((with_reducible refine Hp.allo (ty := 132) H ?_); refine ⟨rfl, ?_⟩; refine ⟨_, z_A3, ?_⟩; (clear H; intro gp w1 H); go_frame) | ((with_reducible refine Hp.stv H ?_); refine ⟨rfl, ?_⟩; refine ⟨c_look rfl, ?_⟩; (first | refine ⟨.bool _, rfl, ?_⟩ | refine ⟨.int _ _, rfl, ?_⟩ | refine ⟨.string _, rfl, ?_⟩ | refine ⟨.slice _ _ _, rfl, ?_⟩ | refine ⟨.pointer _, rfl, ?_⟩); refine ⟨rfl, _, _, rfl, ?_⟩; ((repeat ((fail_if_success refine ⟨_, _, _, .z, ?_⟩); refine hs ?_)); refine ⟨_, _, _, .z, ?_⟩); refine ⟨⟨_, rfl⟩, ?_⟩; (clear H; intro w1 H; simp only [List.set] at H); go_frame) | ((with_reducible refine Hp.sta H ?_); refine ⟨rfl, ?_⟩; refine ⟨_, s_look rfl, ?_⟩; refine ⟨_, rfl, _, rfl, rfl, ?_⟩; ((repeat ((fail_if_success refine ⟨_, _, _, .z, ?_⟩); refine hs ?_)); refine ⟨_, _, _, .z, ?_⟩); refine ⟨rfl, rfl, ?_⟩; (clear H; intro w1 H; simp only [List.set] at H); go_frame) | ((with_reducible refine Hp.bdl (t := 27) (parts := [_, _]) H ?_); refine ⟨rfl, _, b_en2 _, ?_⟩; go_frame) | ((with_reducible refine Hp.ldo H ?_); refine ⟨rfl, ?_⟩; refine ⟨c_look rfl, ?_⟩; refine ⟨_, rfl, ?_⟩; refine ⟨_, ‹_›, ?_⟩; go_frame) | ((with_reducible refine (rget_v HS.out HSP.out HSE.out (hrd.below H.below) hlm).mono ?_); rintro _ w2 ⟨rfl, rfl⟩)); refine wp_loop_rounds 4 ?_; rw [rounds_succ]; go_wp2_with (first | (fail)); ((with_reducible refine (rread_v HT0.out HP1.out HX0.out (hrd.below H.below) hc hm').mono ?_); rintro _ w2 ⟨rfl, rfl⟩); go_wp2_with (first | ((with_reducible refine Hp.stv H ?_); refine ⟨rfl, ?_⟩; refine ⟨c_look rfl, ?_⟩; (first | refine ⟨.bool _, rfl, ?_⟩ | refine ⟨.int _ _, rfl, ?_⟩ | refine ⟨.string _, rfl, ?_⟩ | refine ⟨.slice _ _ _, rfl, ?_⟩ | refine ⟨.pointer _, rfl, ?_⟩); refine ⟨rfl, _, _, rfl, ?_⟩; ((repeat ((fail_if_success refine ⟨_, _, _, .z, ?_⟩); refine hs ?_)); refine ⟨_, _, _, .z, ?_⟩); refine ⟨⟨_, rfl⟩, ?_⟩; (clear H; intro w1 H; simp only [List.set] at H); go_frame)))
          rw [rounds_succ]
          go_wp2_with (first | (fail))
          ((with_reducible refine (rread_v HT1.out HP2.out HX1.out (hrd.below H.below) hc hm').mono ?_); rintro _ w2 ⟨rfl, rfl⟩)
          go_wp2_with (first | ((with_reducible refine Hp.stv H ?_); refine ⟨rfl, ?_⟩; refine ⟨c_look rfl, ?_⟩; (first | refine ⟨.bool _, rfl, ?_⟩ | refine ⟨.int _ _, rfl, ?_⟩ | refine ⟨.string _, rfl, ?_⟩ | refine ⟨.slice _ _ _, rfl, ?_⟩ | refine ⟨.pointer _, rfl, ?_⟩); refine ⟨rfl, _, _, rfl, ?_⟩; ((repeat ((fail_if_success refine ⟨_, _, _, .z, ?_⟩); refine hs ?_)); refine ⟨_, _, _, .z, ?_⟩); refine ⟨⟨_, rfl⟩, ?_⟩; (clear H; intro w1 H; simp only [List.set] at H); go_frame))
          rw [rounds_succ]
          go_wp2_with (first | (fail))
          ((with_reducible refine (rread_v HT2.out HP3.out HX2.out (hrd.below H.below) hc hm').mono ?_); rintro _ w2 ⟨rfl, rfl⟩)
          go_wp2_with (first | ((with_reducible refine Hp.stv H ?_); refine ⟨rfl, ?_⟩; refine ⟨c_look rfl, ?_⟩; (first | refine ⟨.bool _, rfl, ?_⟩ | refine ⟨.int _ _, rfl, ?_⟩ | refine ⟨.string _, rfl, ?_⟩ | refine ⟨.slice _ _ _, rfl, ?_⟩ | refine ⟨.pointer _, rfl, ?_⟩); refine ⟨rfl, _, _, rfl, ?_⟩; ((repeat ((fail_if_success refine ⟨_, _, _, .z, ?_⟩); refine hs ?_)); refine ⟨_, _, _, .z, ?_⟩); refine ⟨⟨_, rfl⟩, ?_⟩; (clear H; intro w1 H; simp only [List.set] at H); go_frame))
          rw [rounds_succ]
          go_wp2_with (first | ((with_reducible refine Hp.ld H ?_); refine ⟨rfl, ?_⟩; refine ⟨c_look rfl, ?_⟩; refine ⟨_, _, rfl, ?_⟩; ((repeat ((fail_if_success refine ⟨_, _, _, .z, ?_⟩); refine hs ?_)); refine ⟨_, _, _, .z, ?_⟩); refine ⟨_, rfl, ?_⟩; go_frame) | ((with_reducible refine Hp.lda H ?_); refine ⟨rfl, by kernel_rfl, ?_⟩; refine ⟨_, s_look rfl, ?_⟩; refine ⟨_, rfl, ?_⟩; ((repeat ((fail_if_success refine ⟨_, _, _, .z, ?_⟩); refine hs ?_)); refine ⟨_, _, _, .z, ?_⟩); refine ⟨rfl, ?_⟩; go_frame) | ((with_reducible refine Hp.stv H ?_); refine ⟨rfl, ?_⟩; refine ⟨c_look rfl, ?_⟩; (first | refine ⟨.bool _, rfl, ?_⟩ | refine ⟨.int _ _, rfl, ?_⟩ | refine ⟨.string _, rfl, ?_⟩ | refine ⟨.slice _ _ _, rfl, ?_⟩ | refine ⟨.pointer _, rfl, ?_⟩); refine ⟨rfl, _, _, rfl, ?_⟩; ((repeat ((fail_if_success refine ⟨_, _, _, .z, ?_⟩); refine hs ?_)); refine ⟨_, _, _, .z, ?_⟩); refine ⟨⟨_, rfl⟩, ?_⟩; (clear H; intro w1 H; simp only [List.set] at H); go_frame))
          refine (rmay_b ⟨2, C, S, O, T0, T1, T2⟩ _ _ hmay hsm).mono ?_
          rintro _ w1 ⟨rfl, hb⟩; replace H := H.call hb; clear hb
          go_wp2_with (first | ((with_reducible refine Hp.lda H ?_); refine ⟨rfl, by kernel_rfl, ?_⟩; refine ⟨_, s_look rfl, ?_⟩; refine ⟨_, rfl, ?_⟩; ((repeat ((fail_if_success refine ⟨_, _, _, .z, ?_⟩); refine hs ?_)); refine ⟨_, _, _, .z, ?_⟩); refine ⟨rfl, ?_⟩; go_frame) | ((with_reducible refine Hp.sta H ?_); refine ⟨rfl, ?_⟩; refine ⟨_, s_look rfl, ?_⟩; refine ⟨_, rfl, _, rfl, rfl, ?_⟩; ((repeat ((fail_if_success refine ⟨_, _, _, .z, ?_⟩); refine hs ?_)); refine ⟨_, _, _, .z, ?_⟩); refine ⟨rfl, rfl, ?_⟩; (clear H; intro w1 H; simp only [List.set] at H); go_frame))
          exact bodyPost_ret (v := .tuple #[.agg (enC ⟨2, C, S, O, T0, T1, T2⟩).toArray, .int .i64 P3, .int .i64 0]) (results_ctt rfl rfl (H.var (by kernel_rfl) (t := 27) (cs := enC ⟨2, C, S, O, T0, T1, T2⟩) (.s (.s .z)) s_Entry) rfl rfl) rfl (retER_of HB1.out.1 HB1.out.2.1 HB1.out.2.2 H.below)
      · have hq2 : (X2 != 0) = true := bne_iff_ne.mpr hx2
        have HNB : Hid ((tR l ⟨P2, false⟩).bad = true) := Lib.hid (tR_no (by rw [HX2.out]; exact hx2))
        clear hx0 hx1 hx2
        (go_enter Tryd.func88, Tryd.ntmps88; go_wp2_with (first | ((with_reducible refine Hp.allo (ty := 27) H ?_); refine ⟨rfl, ?_⟩; refine ⟨_, z_look rfl, ?_⟩; (clear H; intro gE w1 H); go_frame) | ((with_reducible refine Hp.allo (ty := 132) H ?_); refine ⟨rfl, ?_⟩; refine ⟨_, z_A3, ?_⟩; (clear H; intro gp w1 H); go_frame) | ((with_reducible refine Hp.stv H ?_); refine ⟨rfl, ?_⟩; refine ⟨c_look rfl, ?_⟩; (first | refine ⟨.bool _, rfl, ?_⟩ | refine ⟨.int _ _, rfl, ?_⟩ | refine ⟨.string _, rfl, ?_⟩ | refine ⟨.slice _ _ _, rfl, ?_⟩ | refine ⟨.pointer _, rfl, ?_⟩); refine ⟨rfl, _, _, rfl, ?_⟩; ((repeat ((fail_if_success refine ⟨_, _, _, .z, ?_⟩); refine hs ?_)); refine ⟨_, _, _, .z, ?_⟩); refine ⟨⟨_, rfl⟩, ?_⟩; (clear H; intro w1 H; simp only [List.set] at H); go_frame) | ((with_reducible refine Hp.sta H ?_); refine ⟨rfl, ?_⟩; refine ⟨_, s_look rfl, ?_⟩; refine ⟨_, rfl, _, rfl, rfl, ?_⟩; ((repeat ((fail_if_success refine ⟨_, _, _, .z, ?_⟩); refine hs ?_)); refine ⟨_, _, _, .z, ?_⟩); refine ⟨rfl, rfl, ?_⟩; (clear H; intro w1 H; simp only [List.set] at H); go_frame) | ((with_reducible refine Hp.bdl (t := 27) (parts := [_, _]) H ?_); refine ⟨rfl, _, b_en2 _, ?_⟩; go_frame) | ((with_reducible refine Hp.ldo H ?_); refine ⟨rfl, ?_⟩; refine ⟨c_look rfl, ?_⟩; refine ⟨_, rfl, ?_⟩; refine ⟨_, ‹_›, ?_⟩; go_frame) | ((with_reducible refine (rget_v HS.out HSP.out HSE.out (hrd.below H.below) hlm).mono ?_); rintro _ w2 ⟨rfl, rfl⟩)); refine wp_loop_rounds 4 ?_; rw [rounds_succ]; go_wp2_with (first | (fail)); ((with_reducible refine (rread_v HT0.out HP1.out HX0.out (hrd.below H.below) hc hm').mono ?_); rintro _ w2 ⟨rfl, rfl⟩); go_wp2_with (first | ((with_reducible refine Hp.stv H ?_); refine ⟨rfl, ?_⟩; refine ⟨c_look rfl, ?_⟩; (first | refine ⟨.bool _, rfl, ?_⟩ | refine ⟨.int _ _, rfl, ?_⟩ | refine ⟨.string _, rfl, ?_⟩ | refine ⟨.slice _ _ _, rfl, ?_⟩ | refine ⟨.pointer _, rfl, ?_⟩); refine ⟨rfl, _, _, rfl, ?_⟩; ((repeat ((fail_if_success refine ⟨_, _, _, .z, ?_⟩); refine hs ?_)); refine ⟨_, _, _, .z, ?_⟩); refine ⟨⟨_, rfl⟩, ?_⟩; (clear H; intro w1 H; simp only [List.set] at H); go_frame)))
        rw [rounds_succ]
        go_wp2_with (first | (fail))
        ((with_reducible refine (rread_v HT1.out HP2.out HX1.out (hrd.below H.below) hc hm').mono ?_); rintro _ w2 ⟨rfl, rfl⟩)
        go_wp2_with (first | ((with_reducible refine Hp.stv H ?_); refine ⟨rfl, ?_⟩; refine ⟨c_look rfl, ?_⟩; (first | refine ⟨.bool _, rfl, ?_⟩ | refine ⟨.int _ _, rfl, ?_⟩ | refine ⟨.string _, rfl, ?_⟩ | refine ⟨.slice _ _ _, rfl, ?_⟩ | refine ⟨.pointer _, rfl, ?_⟩); refine ⟨rfl, _, _, rfl, ?_⟩; ((repeat ((fail_if_success refine ⟨_, _, _, .z, ?_⟩); refine hs ?_)); refine ⟨_, _, _, .z, ?_⟩); refine ⟨⟨_, rfl⟩, ?_⟩; (clear H; intro w1 H; simp only [List.set] at H); go_frame))
        rw [rounds_succ]
        go_wp2_with (first | (fail))
        ((with_reducible refine (rread_v HT2.out HP3.out HX2.out (hrd.below H.below) hc hm').mono ?_); rintro _ w2 ⟨rfl, rfl⟩)
        go_wp2_with (first | ((with_reducible refine Hp.sta H ?_); refine ⟨rfl, ?_⟩; refine ⟨_, s_look rfl, ?_⟩; refine ⟨_, rfl, _, rfl, rfl, ?_⟩; ((repeat ((fail_if_success refine ⟨_, _, _, .z, ?_⟩); refine hs ?_)); refine ⟨_, _, _, .z, ?_⟩); refine ⟨rfl, rfl, ?_⟩; (clear H; intro w1 H; simp only [List.set] at H); go_frame) | ((with_reducible refine Hp.bdl (t := 27) (parts := []) H ?_); refine ⟨rfl, _, b_en0d, ?_⟩; go_frame))
        (have hbb := er_bad (l := l) (k := k) (by omega) (by rw [HRR.out, HG0.out, HG1.out, HNB.out]; rfl); exact bodyPost_ret (v := .tuple #[.agg (enC en0).toArray, .int .i64 0, .int .i64 90]) (results_ctt rfl rfl (H.var (by kernel_rfl) (t := 27) (cs := enC en0) (.s (.s .z)) s_Entry) rfl rfl) rfl (retER_of hbb.1 hbb.2.1 hbb.2.2 H.below))
    · have hq1 : (X1 != 0) = true := bne_iff_ne.mpr hx1
      have HNB : Hid ((tR l ⟨P1, false⟩).bad = true) := Lib.hid (tR_no (by rw [HX1.out]; exact hx1))
      clear hx0 hx1
      (go_enter Tryd.func88, Tryd.ntmps88; go_wp2_with (first | ((with_reducible refine Hp.allo (ty := 27) H ?_); refine ⟨rfl, ?_⟩; refine ⟨_, z_look rfl, ?_⟩; (clear H; intro gE w1 H); go_frame) | ((with_reducible refine Hp.allo (ty := 132) H ?_); refine ⟨rfl, ?_⟩; refine ⟨_, z_A3, ?_⟩; (clear H; intro gp w1 H); go_frame) | ((with_reducible refine Hp.stv H ?_); refine ⟨rfl, ?_⟩; refine ⟨c_look rfl, ?_⟩; (first | refine ⟨.bool _, rfl, ?_⟩ | refine ⟨.int _ _, rfl, ?_⟩ | refine ⟨.string _, rfl, ?_⟩ | refine ⟨.slice _ _ _, rfl, ?_⟩ | refine ⟨.pointer _, rfl, ?_⟩); refine ⟨rfl, _, _, rfl, ?_⟩; ((repeat ((fail_if_success refine ⟨_, _, _, .z, ?_⟩); refine hs ?_)); refine ⟨_, _, _, .z, ?_⟩); refine ⟨⟨_, rfl⟩, ?_⟩; (clear H; intro w1 H; simp only [List.set] at H); go_frame) | ((with_reducible refine Hp.sta H ?_); refine ⟨rfl, ?_⟩; refine ⟨_, s_look rfl, ?_⟩; refine ⟨_, rfl, _, rfl, rfl, ?_⟩; ((repeat ((fail_if_success refine ⟨_, _, _, .z, ?_⟩); refine hs ?_)); refine ⟨_, _, _, .z, ?_⟩); refine ⟨rfl, rfl, ?_⟩; (clear H; intro w1 H; simp only [List.set] at H); go_frame) | ((with_reducible refine Hp.bdl (t := 27) (parts := [_, _]) H ?_); refine ⟨rfl, _, b_en2 _, ?_⟩; go_frame) | ((with_reducible refine Hp.ldo H ?_); refine ⟨rfl, ?_⟩; refine ⟨c_look rfl, ?_⟩; refine ⟨_, rfl, ?_⟩; refine ⟨_, ‹_›, ?_⟩; go_frame) | ((with_reducible refine (rget_v HS.out HSP.out HSE.out (hrd.below H.below) hlm).mono ?_); rintro _ w2 ⟨rfl, rfl⟩)); refine wp_loop_rounds 4 ?_; rw [rounds_succ]; go_wp2_with (first | (fail)); ((with_reducible refine (rread_v HT0.out HP1.out HX0.out (hrd.below H.below) hc hm').mono ?_); rintro _ w2 ⟨rfl, rfl⟩); go_wp2_with (first | ((with_reducible refine Hp.stv H ?_); refine ⟨rfl, ?_⟩; refine ⟨c_look rfl, ?_⟩; (first | refine ⟨.bool _, rfl, ?_⟩ | refine ⟨.int _ _, rfl, ?_⟩ | refine ⟨.string _, rfl, ?_⟩ | refine ⟨.slice _ _ _, rfl, ?_⟩ | refine ⟨.pointer _, rfl, ?_⟩); refine ⟨rfl, _, _, rfl, ?_⟩; ((repeat ((fail_if_success refine ⟨_, _, _, .z, ?_⟩); refine hs ?_)); refine ⟨_, _, _, .z, ?_⟩); refine ⟨⟨_, rfl⟩, ?_⟩; (clear H; intro w1 H; simp only [List.set] at H); go_frame)))
      rw [rounds_succ]
      go_wp2_with (first | (fail))
      ((with_reducible refine (rread_v HT1.out HP2.out HX1.out (hrd.below H.below) hc hm').mono ?_); rintro _ w2 ⟨rfl, rfl⟩)
      go_wp2_with (first | ((with_reducible refine Hp.sta H ?_); refine ⟨rfl, ?_⟩; refine ⟨_, s_look rfl, ?_⟩; refine ⟨_, rfl, _, rfl, rfl, ?_⟩; ((repeat ((fail_if_success refine ⟨_, _, _, .z, ?_⟩); refine hs ?_)); refine ⟨_, _, _, .z, ?_⟩); refine ⟨rfl, rfl, ?_⟩; (clear H; intro w1 H; simp only [List.set] at H); go_frame) | ((with_reducible refine Hp.bdl (t := 27) (parts := []) H ?_); refine ⟨rfl, _, b_en0d, ?_⟩; go_frame))
      (have hbb := er_bad (l := l) (k := k) (by omega) (by rw [HRR.out, HG0.out, tR_bad HNB.out]; rfl); exact bodyPost_ret (v := .tuple #[.agg (enC en0).toArray, .int .i64 0, .int .i64 90]) (results_ctt rfl rfl (H.var (by kernel_rfl) (t := 27) (cs := enC en0) (.s (.s .z)) s_Entry) rfl rfl) rfl (retER_of hbb.1 hbb.2.1 hbb.2.2 H.below))
  · have hq0 : (X0 != 0) = true := bne_iff_ne.mpr hx0
    have HNB : Hid ((tR l ⟨((k + 9 : Nat) : Int), false⟩).bad = true) := Lib.hid (tR_no (show readE l ((k : Int) + 9) ≠ 0 by rw [HX0.out]; exact hx0))
    clear hx0
    (go_enter Tryd.func88, Tryd.ntmps88; go_wp2_with (first | ((with_reducible refine Hp.allo (ty := 27) H ?_); refine ⟨rfl, ?_⟩; refine ⟨_, z_look rfl, ?_⟩; (clear H; intro gE w1 H); go_frame) | ((with_reducible refine Hp.allo (ty := 132) H ?_); refine ⟨rfl, ?_⟩; refine ⟨_, z_A3, ?_⟩; (clear H; intro gp w1 H); go_frame) | ((with_reducible refine Hp.stv H ?_); refine ⟨rfl, ?_⟩; refine ⟨c_look rfl, ?_⟩; (first | refine ⟨.bool _, rfl, ?_⟩ | refine ⟨.int _ _, rfl, ?_⟩ | refine ⟨.string _, rfl, ?_⟩ | refine ⟨.slice _ _ _, rfl, ?_⟩ | refine ⟨.pointer _, rfl, ?_⟩); refine ⟨rfl, _, _, rfl, ?_⟩; ((repeat ((fail_if_success refine ⟨_, _, _, .z, ?_⟩); refine hs ?_)); refine ⟨_, _, _, .z, ?_⟩); refine ⟨⟨_, rfl⟩, ?_⟩; (clear H; intro w1 H; simp only [List.set] at H); go_frame) | ((with_reducible refine Hp.sta H ?_); refine ⟨rfl, ?_⟩; refine ⟨_, s_look rfl, ?_⟩; refine ⟨_, rfl, _, rfl, rfl, ?_⟩; ((repeat ((fail_if_success refine ⟨_, _, _, .z, ?_⟩); refine hs ?_)); refine ⟨_, _, _, .z, ?_⟩); refine ⟨rfl, rfl, ?_⟩; (clear H; intro w1 H; simp only [List.set] at H); go_frame) | ((with_reducible refine Hp.bdl (t := 27) (parts := [_, _]) H ?_); refine ⟨rfl, _, b_en2 _, ?_⟩; go_frame) | ((with_reducible refine Hp.ldo H ?_); refine ⟨rfl, ?_⟩; refine ⟨c_look rfl, ?_⟩; refine ⟨_, rfl, ?_⟩; refine ⟨_, ‹_›, ?_⟩; go_frame) | ((with_reducible refine (rget_v HS.out HSP.out HSE.out (hrd.below H.below) hlm).mono ?_); rintro _ w2 ⟨rfl, rfl⟩)); refine wp_loop_rounds 4 ?_; rw [rounds_succ]; go_wp2_with (first | (fail)); ((with_reducible refine (rread_v HT0.out HP1.out HX0.out (hrd.below H.below) hc hm').mono ?_); rintro _ w2 ⟨rfl, rfl⟩); go_wp2_with (first | ((with_reducible refine Hp.sta H ?_); refine ⟨rfl, ?_⟩; refine ⟨_, s_look rfl, ?_⟩; refine ⟨_, rfl, _, rfl, rfl, ?_⟩; ((repeat ((fail_if_success refine ⟨_, _, _, .z, ?_⟩); refine hs ?_)); refine ⟨_, _, _, .z, ?_⟩); refine ⟨rfl, rfl, ?_⟩; (clear H; intro w1 H; simp only [List.set] at H); go_frame) | ((with_reducible refine Hp.bdl (t := 27) (parts := []) H ?_); refine ⟨rfl, _, b_en0d, ?_⟩; go_frame)))
    (have hbb := er_bad (l := l) (k := k) (by omega) (by rw [HRR.out, tR_bad (tR_bad HNB.out)]; rfl); exact bodyPost_ret (v := .tuple #[.agg (enC en0).toArray, .int .i64 0, .int .i64 90]) (results_ctt rfl rfl (H.var (by kernel_rfl) (t := 27) (cs := enC en0) (.s (.s .z)) s_Entry) rfl rfl) rfl (retER_of hbb.1 hbb.2.1 hbb.2.2 H.below))
theorem rread_e (A : Option Addr) (c : Nat) (l : List UInt8) (a : Int) (w : World) (hr : Rd w A l) (hc : l.length ≤ c) (hm : c ≤ maxLen) :
    Calls Tryd.prog 88 #[.slice A l.length c, .int .i64 a] w (RetER l a w) := by
  by_cases h : a < 0 ∨ (l.length : Int) < a
  · exact rread_out A c l a w hc hm h
  · obtain ⟨k, rfl⟩ := Int.eq_ofNat_of_zero_le (show 0 ≤ a by omega)
    by_cases hk : k = l.length
    · subst hk
      exact rread_end A c l w hc hm
    · have hk' : k < l.length := by omega
      obtain ⟨b, o, rfl, hcs⟩ := hr.at_ hk'
      by_cases h1 : l[k].toNat = 1
      · exact rread_one b o c l k w hcs hc hm hk' h1
      · by_cases h2 : l[k].toNat = 2
        · by_cases h9 : l.length < k + 9
          · exact rread_few b o c l k w hcs hc hm hk' h2 h9
          · exact rread_many b o c l k w hr hcs hc hm (by omega) h2
        · exact rread_other b o c l k w hcs hc hm hk' h1 h2
end Go.Proofs.YtajgikjmoeemnaaDoor
