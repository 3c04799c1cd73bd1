/-
  THE WALKS OF sextonref20's reading: next, number, text, who, ballot, entry.
-/
import Derived.Test.YtajgikjmoeemnaaDoorPaP
import Derived.Test.YtajgikjmoeemnaaDoorPk2
namespace Go.Proofs.YtajgikjmoeemnaaDoor
set_option maxRecDepth 100000
open Go.RowKit
set_option linter.unusedVariables false
set_option linter.unusedSimpArgs false
/-- where the document's reader stands -/
structure Qs where
  a : Nat
  b : Bool
def okQ (l : List UInt8) (s : Qs) (n : Nat) : Bool := !s.b && decide (s.a + n ≤ l.length)
def rnP (l : List UInt8) (s : Qs) (n : Nat) : Qs := if okQ l s n then ⟨s.a + n, false⟩ else ⟨s.a, true⟩
def rnV (l : List UInt8) (s : Qs) (n : Nat) : List UInt8 := if okQ l s n then (l.drop s.a).take n else []
theorem rnP_le {l : List UInt8} {s : Qs} {n : Nat} (h : s.a ≤ l.length) : (rnP l s n).a ≤ l.length := by
  unfold rnP
  split
  · rename_i h1
    simp only [okQ, Bool.and_eq_true, decide_eq_true_eq] at h1
    exact h1.2
  · exact h
theorem rnV_len (l : List UInt8) (s : Qs) (n : Nat) : (rnV l s n).length ≤ n := by unfold rnV; split <;> simp; omega
abbrev rrI (g : Nat) (A : Option Addr) (n c : Nat) (s : Qs) : Item := .blk g 88 [.slice A n c, .int .i64 (s.a : Int), .bool s.b]
def RetNx (w0 : World) (g : Nat) (A : Option Addr) (c : Nat) (l : List UInt8) (s : Qs) (V : List UInt8) (L : List Item) (e : Ending) (w' : World) : Prop :=
  ∃ A' c', e = .returned (.slice A' V.length c') ∧ Rd w0 A' V ∧ V.length ≤ c' ∧ c' ≤ maxLen ∧ Hp w0 w' (rrI g A l.length c s :: L)
set_option maxHeartbeats 2000000 in
theorem nx_any (A : Option Addr) (c : Nat) (l : List UInt8) (s : Qs) (n : Nat) (g : Nat) (w0 w : World) (L : List Item) (hr : Rd w0 A l) (hc : l.length ≤ c) (hm : c ≤ maxLen) (hq : s.a ≤ l.length) (hn : n ≤ 1000) (H : Hp w0 w (rrI g A l.length c s :: L)) :
    Calls Tryd.prog 87 #[.pointer (some ⟨g, 0, none⟩), .int .i64 (n : Int)] w (RetNx w0 g A c l (rnP l s n) (rnV l s n) L) := by
  obtain ⟨a, b⟩ := s
  simp only at hq
  have hm2 := hm
  unfold maxLen at hm2
  cases b
  rotate_left
  · have e1 : rnP l ⟨a, true⟩ n = ⟨a, true⟩ := rfl
    have e2 : rnV l ⟨a, true⟩ n = [] := rfl
    rw [e1, e2]
    clear e1 e2
    (go_enter Tryd.func87, Tryd.ntmps87; go_wp2_with (first | (fail)); ((with_reducible refine wp_region_hpK H (by kernel_rfl) (by kernel_rfl) ?_); intro _ KQ hKQ; (repeat (first | go_big_quiet_skip | ((with_reducible refine hq_ld ?_); refine ⟨rfl, ?_⟩; refine ⟨c_look rfl, ?_⟩; refine ⟨_, _, rfl, ?_⟩; refine ⟨_, _, _, .z, ?_⟩; refine ⟨_, rfl, ?_⟩; go_frame) | go_big_quiet_step ((fail)))); (with_reducible refine wpQuiet_nil (hKQ _ ?_)); clear hKQ; clear KQ H; intro w1 H); go_wp2_with (first | ((with_reducible refine Hp.stv H ?_); refine ⟨rfl, ?_⟩; refine ⟨c_look rfl, ?_⟩; (first | refine ⟨.bool _, rfl, ?_⟩ | refine ⟨.int _ _, rfl, ?_⟩ | refine ⟨.string _, rfl, ?_⟩ | refine ⟨.slice _ _ _, rfl, ?_⟩ | refine ⟨.pointer _, rfl, ?_⟩); refine ⟨rfl, _, _, rfl, ?_⟩; refine ⟨_, _, _, .z, ?_⟩; refine ⟨⟨_, rfl⟩, ?_⟩; (clear H; intro w1 H; simp only [List.set] at H); go_frame)))
    go_ret
    exact ⟨none, 0, rfl, Rd.nil _ _, Nat.le_refl _, Nat.zero_le _, H⟩
  · have hw1 : IntKind.i64.wrap ((l.length : Int) - a) = (l.length : Int) - a := IntWalk.i64_in _ (by omega)
    by_cases h : a + n ≤ l.length
    · have hw2 : IntKind.i64.wrap ((a : Int) + n) = (a : Int) + n := IntWalk.i64_in _ (by omega)
      have e1 : rnP l ⟨a, false⟩ n = ⟨a + n, false⟩ := by unfold rnP okQ; simp [h]
      have e2 : rnV l ⟨a, false⟩ n = (l.drop a).take n := by unfold rnV okQ; simp [h]
      have d : decide ((l.length : Int) - a < n) = false := decide_eq_false (by omega)
      rw [e1, e2]
      have hlen : ((l.drop a).take n).length = n := by simp; omega
      have hrd := hr.slice a n c h hc
      clear e1 e2
      by_cases hca : c = a
      · subst hca
        rw [if_pos rfl] at hrd
        have HLE := Lib.hid hlen
        have HRD := Lib.hid hrd
        clear hlen hrd
        (go_enter Tryd.func87, Tryd.ntmps87; go_wp2_with (first | (fail)); ((with_reducible refine wp_region_hpK H (by kernel_rfl) (by kernel_rfl) ?_); intro _ KQ hKQ; (repeat (first | ((with_reducible refine hq_ld ?_); refine ⟨rfl, ?_⟩; refine ⟨c_look rfl, ?_⟩; refine ⟨_, _, rfl, ?_⟩; refine ⟨_, _, _, .z, ?_⟩; refine ⟨_, rfl, ?_⟩; go_frame) | go_big_quiet_step ((fail)))); (with_reducible refine wpQuiet_nil (hKQ _ ?_)); clear hKQ; clear KQ H; intro w1 H); go_wp2_with (first | (fail)))
        ((with_reducible refine wp_region_hpK H (by kernel_rfl) (by kernel_rfl) ?_); intro _ KQ hKQ; (repeat (first | ((with_reducible refine hq_ld ?_); refine ⟨rfl, ?_⟩; refine ⟨c_look rfl, ?_⟩; refine ⟨_, _, rfl, ?_⟩; refine ⟨_, _, _, .z, ?_⟩; refine ⟨_, rfl, ?_⟩; go_frame) | go_big_quiet_step ((fail)))); (with_reducible refine wpQuiet_nil (hKQ _ ?_)); clear hKQ; clear KQ H; intro w1 H)
        go_wp2_with (first | ((with_reducible refine Hp.ld H ?_); refine ⟨rfl, ?_⟩; refine ⟨c_look rfl, ?_⟩; refine ⟨_, _, rfl, ?_⟩; refine ⟨_, _, _, .z, ?_⟩; refine ⟨_, rfl, ?_⟩; go_frame) | ((with_reducible refine Hp.stv H ?_); refine ⟨rfl, ?_⟩; refine ⟨c_look rfl, ?_⟩; (first | refine ⟨.bool _, rfl, ?_⟩ | refine ⟨.int _ _, rfl, ?_⟩ | refine ⟨.string _, rfl, ?_⟩ | refine ⟨.slice _ _ _, rfl, ?_⟩ | refine ⟨.pointer _, rfl, ?_⟩); refine ⟨rfl, _, _, rfl, ?_⟩; refine ⟨_, _, _, .z, ?_⟩; refine ⟨⟨_, rfl⟩, ?_⟩; (clear H; intro w1 H; simp only [List.set] at H); go_frame))
        go_ret
        refine ⟨_, c - c, ?_, HRD.out, by rw [HLE.out]; omega, by omega, H⟩
        rw [HLE.out]
        simp
      · rw [if_neg hca] at hrd
        have HLE := Lib.hid hlen
        have HRD := Lib.hid hrd
        clear hlen hrd
        (go_enter Tryd.func87, Tryd.ntmps87; go_wp2_with (first | (fail)); ((with_reducible refine wp_region_hpK H (by kernel_rfl) (by kernel_rfl) ?_); intro _ KQ hKQ; (repeat (first | ((with_reducible refine hq_ld ?_); refine ⟨rfl, ?_⟩; refine ⟨c_look rfl, ?_⟩; refine ⟨_, _, rfl, ?_⟩; refine ⟨_, _, _, .z, ?_⟩; refine ⟨_, rfl, ?_⟩; go_frame) | go_big_quiet_step ((fail)))); (with_reducible refine wpQuiet_nil (hKQ _ ?_)); clear hKQ; clear KQ H; intro w1 H); go_wp2_with (first | (fail)))
        ((with_reducible refine wp_region_hpK H (by kernel_rfl) (by kernel_rfl) ?_); intro _ KQ hKQ; (repeat (first | ((with_reducible refine hq_ld ?_); refine ⟨rfl, ?_⟩; refine ⟨c_look rfl, ?_⟩; refine ⟨_, _, rfl, ?_⟩; refine ⟨_, _, _, .z, ?_⟩; refine ⟨_, rfl, ?_⟩; go_frame) | go_big_quiet_step ((fail)))); (with_reducible refine wpQuiet_nil (hKQ _ ?_)); clear hKQ; clear KQ H; intro w1 H)
        go_wp2_with (first | ((with_reducible refine Hp.ld H ?_); refine ⟨rfl, ?_⟩; refine ⟨c_look rfl, ?_⟩; refine ⟨_, _, rfl, ?_⟩; refine ⟨_, _, _, .z, ?_⟩; refine ⟨_, rfl, ?_⟩; go_frame) | ((with_reducible refine Hp.stv H ?_); refine ⟨rfl, ?_⟩; refine ⟨c_look rfl, ?_⟩; (first | refine ⟨.bool _, rfl, ?_⟩ | refine ⟨.int _ _, rfl, ?_⟩ | refine ⟨.string _, rfl, ?_⟩ | refine ⟨.slice _ _ _, rfl, ?_⟩ | refine ⟨.pointer _, rfl, ?_⟩); refine ⟨rfl, _, _, rfl, ?_⟩; refine ⟨_, _, _, .z, ?_⟩; refine ⟨⟨_, rfl⟩, ?_⟩; (clear H; intro w1 H; simp only [List.set] at H); go_frame))
        go_ret
        refine ⟨_, c - a, ?_, HRD.out, by rw [HLE.out]; omega, by omega, H⟩
        rw [HLE.out]
        simp
    · have e1 : rnP l ⟨a, false⟩ n = ⟨a, true⟩ := by unfold rnP okQ; simp [h]
      have e2 : rnV l ⟨a, false⟩ n = [] := by unfold rnV okQ; simp [h]
      have d : decide ((l.length : Int) - a < n) = true := decide_eq_true (by omega)
      rw [e1, e2]
      clear e1 e2
      (go_enter Tryd.func87, Tryd.ntmps87; go_wp2_with (first | (fail)); ((with_reducible refine wp_region_hpK H (by kernel_rfl) (by kernel_rfl) ?_); intro _ KQ hKQ; (repeat (first | ((with_reducible refine hq_ld ?_); refine ⟨rfl, ?_⟩; refine ⟨c_look rfl, ?_⟩; refine ⟨_, _, rfl, ?_⟩; refine ⟨_, _, _, .z, ?_⟩; refine ⟨_, rfl, ?_⟩; go_frame) | go_big_quiet_step ((fail)))); (with_reducible refine wpQuiet_nil (hKQ _ ?_)); clear hKQ; clear KQ H; intro w1 H); go_wp2_with (first | ((with_reducible refine Hp.stv H ?_); refine ⟨rfl, ?_⟩; refine ⟨c_look rfl, ?_⟩; (first | refine ⟨.bool _, rfl, ?_⟩ | refine ⟨.int _ _, rfl, ?_⟩ | refine ⟨.string _, rfl, ?_⟩ | refine ⟨.slice _ _ _, rfl, ?_⟩ | refine ⟨.pointer _, rfl, ?_⟩); refine ⟨rfl, _, _, rfl, ?_⟩; refine ⟨_, _, _, .z, ?_⟩; refine ⟨⟨_, rfl⟩, ?_⟩; (clear H; intro w1 H; simp only [List.set] at H); go_frame)))
      go_ret
      exact ⟨none, 0, rfl, Rd.nil _ _, Nat.le_refl _, Nat.zero_le _, H⟩
theorem R_of2 {α : Type} {β : Type} {γ : Type} {R : α → β → γ → Prop} {a : α} {b : β} {c : γ} (h : R a b c) : ∃ R', R' = R ∧ R' a b c := ⟨R, rfl, h⟩
/-! number -/
/-- the loop's relation: what is left is what's before k -/
def RNRel (w0 : World) (g : Nat) (A : Option Addr) (c : Nat) (l : List UInt8) (s : Qs) (V : List UInt8) (L : List Item) (v6 v7 : Value) (wr : World) : Prop :=
  ∃ k : Nat, k ≤ V.length ∧ v6 = .int .i64 (leN (V.drop k) : Nat) ∧ v7 = .int .i64 ((k : Int) - 1) ∧ Hp w0 wr (rrI g A l.length c s :: L)
theorem leN_step (V : List UInt8) (k : Nat) (h : k < V.length) : (256 * (leN (V.drop (k + 1)) : Nat) + (V[k].toNat : Int) : Int) = (leN (V.drop k) : Nat) := by
  rw [List.drop_eq_getElem_cons h, leN]
  omega
theorem leN_small (V : List UInt8) (h : V.length ≤ 6) (k : Nat) : leN (V.drop k) < 281474976710656 := by
  have h1 := leN_lt (V.drop k)
  have h2 : (256 : Nat) ^ (V.drop k).length ≤ 256 ^ 6 := Nat.pow_le_pow_right (by omega) (by simp; omega)
  have h3 : (256 : Nat) ^ 6 = 281474976710656 := by decide
  omega
set_option maxHeartbeats 2000000 in
theorem qnum_any (A : Option Addr) (c : Nat) (l : List UInt8) (s : Qs) (n : Nat) (g : Nat) (w0 w : World) (L : List Item) (hr : Rd w0 A l) (hc : l.length ≤ c) (hm : c ≤ maxLen) (hq : s.a ≤ l.length) (hn : n ≤ 6) (H : Hp w0 w (rrI g A l.length c s :: L)) :
    Calls Tryd.prog 70 #[.pointer (some ⟨g, 0, none⟩), .int .i64 (n : Int)] w (RetH w0 (rrI g A l.length c (rnP l s n) :: L) (.int .i64 (leN (rnV l s n) : Nat))) := by
  have hn1 : n ≤ 1000 := by omega
  have hvl := rnV_len l s n
  obtain ⟨V, hV⟩ : ∃ V, rnV l s n = V := ⟨_, rfl⟩
  obtain ⟨s', hs'⟩ : ∃ V, rnP l s n = V := ⟨_, rfl⟩
  have HV := Lib.hid hV
  have HS := Lib.hid hs'
  rw [hV] at hvl ⊢
  rw [hs']
  clear hV hs'
  have hv6 : V.length ≤ 6 := by omega
  have hwl : IntKind.i64.wrap (((rnV l s n).length : Int) - 1) = ((rnV l s n).length : Int) - 1 := IntWalk.i64_in _ (by have := HV.out; have := congrArg List.length this; omega)
  clear hvl
  go_enter Tryd.func70, Tryd.ntmps70
  go_wp2_with (first | ((with_reducible refine (nx_any A c l s n g w0 _ _ hr hc hm hq hn1 H).mono ?_); rintro _ w1 ⟨A1, c1, rfl, hrv, hl1, hm1, HQ⟩; replace H := HQ; clear HQ))
  rw [HV.out, HS.out] at *
  have hl0 : leN (V.drop V.length) = 0 := by rw [List.drop_length]; rfl
  have hat : RNRel w0 g A c l s' V L (.int .i64 0) (.int .i64 ((V.length : Int) - 1)) w1 := ⟨V.length, Nat.le_refl _, by rw [hl0]; rfl, rfl, H⟩
  obtain ⟨R, hR0, hat⟩ := R_of2 hat
  clear H hl0 HV HS hwl hn hn1 hr hc hm hq
  go_loopw [6, 7] (fun u v wr => R u v wr) (fun _ v _ => (intOf v + 1).toNat)
  case atStart => exact hat
  case round =>
    clear hat
    rw [hR0] at hrel
    obtain ⟨k, hk, rfl, rfl, H⟩ := hrel
    obtain rfl | ⟨j, rfl⟩ : k = 0 ∨ ∃ j, k = j + 1 := by cases k with | zero => exact .inl rfl | succ j => exact .inr ⟨j, rfl⟩
    · have hk0 : (((0 : Nat) : Int) - 1) = -1 := rfl
      rw [hk0, List.drop_zero]
      clear hk0
      go_wp2_with (first | (fail))
      go_ret
      exact ⟨rfl, H⟩
    · have hk0 : (((j + 1 : Nat) : Int) - 1) = j := by omega
      rw [hk0]
      have hjl : j < V.length := hk
      have hs := leN_step V j hjl
      have h1 := leN_small V hv6 (j + 1)
      have h2 := leN_small V hv6 j
      obtain ⟨b, o, hA, hcell⟩ := hrv.at_ hjl
      have hcell := hcell j hjl
      obtain ⟨N, hN⟩ : ∃ N : Nat, leN (V.drop (j + 1)) = N := ⟨_, rfl⟩
      obtain ⟨x, hx⟩ : ∃ x : Nat, V[j].toNat = x := ⟨_, rfl⟩
      rw [hN] at hs h1 ⊢
      rw [hx] at hs hcell
      have hxb : x < 256 := by rw [← hx]; exact UInt8.toNat_lt _
      have hwa : IntKind.i64.wrap (256 * (N : Int)) = 256 * (N : Int) := IntWalk.i64_in _ (by omega)
      have hwb : IntKind.i64.wrap (256 * (N : Int) + (x : Int)) = 256 * (N : Int) + (x : Int) := IntWalk.i64_in _ (by omega)
      have hwc : IntKind.i64.wrap ((j : Int) - 1) = (j : Int) - 1 := IntWalk.i64_in _ (by omega)
      have hwd : IntKind.i64.wrap (x : Int) = x := IntWalk.i64_in _ (by omega)
      subst hA
      have HS := Lib.hid hs
      have HK := Lib.hid hk
      clear hs hk hN hx h1 h2 hk0
      go_wp2_with (first | ((with_reducible refine Hp.ldo H ?_); refine ⟨rfl, ?_⟩; refine ⟨c_look rfl, ?_⟩; refine ⟨_, rfl, ?_⟩; refine ⟨_, ‹_›, ?_⟩; go_frame))
      go_roundw
      case rel =>
        rw [hR0]
        refine ⟨j, Nat.le_of_lt hjl, ?_, rfl, H⟩
        rw [HS.out]
      case measure => show ((j : Int) - 1 + 1).toNat < ((j : Int) + 1).toNat; omega
theorem qnum_v {l : List UInt8} {s s' : Qs} {n : Nat} {N : Nat} (hS : rnP l s n = s') (hN : leN (rnV l s n) = N) (A : Option Addr) (c : Nat) (g : Nat) (w0 w : World) (L : List Item) (hr : Rd w0 A l) (hc : l.length ≤ c) (hm : c ≤ maxLen) (hq : s.a ≤ l.length) (hn : n ≤ 6) (H : Hp w0 w (rrI g A l.length c s :: L)) {i : Int} (hi : i = (n : Int)) :
    Calls Tryd.prog 70 #[.pointer (some ⟨g, 0, none⟩), .int .i64 i] w (RetH w0 (rrI g A l.length c s' :: L) (.int .i64 (N : Int))) := by
  subst hS hN hi
  exact qnum_any A c l s n g w0 w L hr hc hm hq hn H
theorem nx_v {l V : List UInt8} {s s' : Qs} {n : Nat} (hS : rnP l s n = s') (hV : rnV l s n = V) (A : Option Addr) (c : Nat) (g : Nat) (w0 w : World) (L : List Item) (hr : Rd w0 A l) (hc : l.length ≤ c) (hm : c ≤ maxLen) (hq : s.a ≤ l.length) (hn : n ≤ 1000) (H : Hp w0 w (rrI g A l.length c s :: L)) :
    Calls Tryd.prog 87 #[.pointer (some ⟨g, 0, none⟩), .int .i64 (n : Int)] w (RetNx w0 g A c l s' V L) := by
  subst hS hV
  exact nx_any A c l s n g w0 w L hr hc hm hq hn H
/-! text, who, ballot, entry -/
def xqN (l : List UInt8) (s : Qs) : Nat := leN (rnV l s 1)
def xqP (l : List UInt8) (s : Qs) : Qs := rnP l (rnP l s 1) (xqN l s)
def xqV (l : List UInt8) (s : Qs) : List UInt8 := rnV l (rnP l s 1) (xqN l s)
theorem leN_1 (l : List UInt8) (s : Qs) : leN (rnV l s 1) < 256 := by
  have h1 := leN_lt (rnV l s 1)
  have h2 : (256 : Nat) ^ (rnV l s 1).length ≤ 256 ^ 1 := Nat.pow_le_pow_right (by omega) (rnV_len l s 1)
  omega
theorem xqP_le {l : List UInt8} {s : Qs} (h : s.a ≤ l.length) : (xqP l s).a ≤ l.length := rnP_le (rnP_le h)
theorem one_int : (1 : Int) = ((1 : Nat) : Int) := rfl
theorem six_int : (6 : Int) = ((6 : Nat) : Int) := rfl
theorem two_int : (2 : Int) = ((2 : Nat) : Int) := rfl
theorem one_le6 : 1 ≤ 6 := by decide
theorem six_le6 : 6 ≤ 6 := by decide
theorem two_le6 : 2 ≤ 6 := by decide
set_option maxHeartbeats 2000000 in
theorem qtxt_any (A : Option Addr) (c : Nat) (l : List UInt8) (s : Qs) (g : Nat) (w0 w : World) (L : List Item) (hr : Rd w0 A l) (hc : l.length ≤ c) (hm : c ≤ maxLen) (hq : s.a ≤ l.length) (H : Hp w0 w (rrI g A l.length c s :: L)) :
    Calls Tryd.prog 73 #[.pointer (some ⟨g, 0, none⟩)] w (RetH w0 (rrI g A l.length c (xqP l s) :: L) (.string (bs (xqV l s)))) := by
  have hN := leN_1 l s
  unfold xqP xqV xqN
  obtain ⟨N, h1⟩ : ∃ N, leN (rnV l s 1) = N := ⟨_, rfl⟩
  have hq2 := rnP_le (n := 1) hq
  obtain ⟨s1, h2⟩ : ∃ N, rnP l s 1 = N := ⟨_, rfl⟩
  rw [h1] at hN ⊢
  rw [h2] at hq2 ⊢
  obtain ⟨V, h3⟩ : ∃ V, rnV l s1 N = V := ⟨_, rfl⟩
  obtain ⟨s2, h4⟩ : ∃ V, rnP l s1 N = V := ⟨_, rfl⟩
  rw [h3, h4]
  have HN1 := Lib.hid h1
  have HS1 := Lib.hid h2
  have HV2 := Lib.hid h3
  have HS2 := Lib.hid h4
  have hn1 : N ≤ 1000 := by omega
  clear h1 h2 h3 h4 hN
  go_enter Tryd.func73, Tryd.ntmps73
  go_wp2_with (first | ((with_reducible refine (qnum_v HS1.out HN1.out A c g w0 _ _ hr hc hm hq one_le6 H one_int).mono ?_); rintro _ w1 ⟨rfl, HQ⟩; replace H := HQ; clear HQ) | ((with_reducible refine (nx_v HS2.out HV2.out A c g w0 _ _ hr hc hm hq2 hn1 H).mono ?_); rintro _ w1 ⟨A1, c1, rfl, hrv, hl1, hm1, HQ⟩; replace H := HQ; clear HQ) | ((with_reducible refine Hp.cvS H ?_); refine ⟨rfl, _, _, _, rfl, V, (hrv.below H.below), rfl, ?_⟩; go_frame))
  go_ret
  exact ⟨rfl, H⟩
def whoQ (i : Int) : Int := if 127 < i then 127 - i else i
set_option maxHeartbeats 2000000 in
theorem qwho_any (A : Option Addr) (c : Nat) (l : List UInt8) (s : Qs) (g : Nat) (w0 w : World) (L : List Item) (hr : Rd w0 A l) (hc : l.length ≤ c) (hm : c ≤ maxLen) (hq : s.a ≤ l.length) (H : Hp w0 w (rrI g A l.length c s :: L)) :
    Calls Tryd.prog 71 #[.pointer (some ⟨g, 0, none⟩)] w (RetH w0 (rrI g A l.length c (rnP l s 1) :: L) (.int .i64 (whoQ (leN (rnV l s 1) : Nat)))) := by
  have hN := leN_1 l s
  obtain ⟨N, h1⟩ : ∃ N, leN (rnV l s 1) = N := ⟨_, rfl⟩
  obtain ⟨s1, h2⟩ : ∃ N, rnP l s 1 = N := ⟨_, rfl⟩
  have HN1 := Lib.hid h1
  have HS1 := Lib.hid h2
  rw [h1] at hN ⊢
  rw [h2]
  clear h1 h2
  unfold whoQ
  by_cases h : (127 : Int) < N
  · rw [if_pos h]
    have d : decide ((127 : Int) < N) = true := decide_eq_true h
    have hw : IntKind.i64.wrap (127 - (N : Int)) = 127 - N := IntWalk.i64_in _ (by omega)
    clear h hN
    go_enter Tryd.func71, Tryd.ntmps71
    go_wp2_with (first | ((with_reducible refine (qnum_v HS1.out HN1.out A c g w0 _ _ hr hc hm hq one_le6 H one_int).mono ?_); rintro _ w1 ⟨rfl, HQ⟩; replace H := HQ; clear HQ))
    go_ret
    exact ⟨rfl, H⟩
  · rw [if_neg h]
    have d : decide ((127 : Int) < N) = false := decide_eq_false h
    clear h hN
    go_enter Tryd.func71, Tryd.ntmps71
    go_wp2_with (first | ((with_reducible refine (qnum_v HS1.out HN1.out A c g w0 _ _ hr hc hm hq one_le6 H one_int).mono ?_); rintro _ w1 ⟨rfl, HQ⟩; replace H := HQ; clear HQ))
    go_ret
    exact ⟨rfl, H⟩
theorem b_balq (r p : Int) : Tryd.prog.built 23 [(0, .int .i64 r), (1, .int .i64 p)] = some (baC r p).toArray := by kernel_rfl
set_option maxHeartbeats 2000000 in
theorem qbal_any (A : Option Addr) (c : Nat) (l : List UInt8) (s : Qs) (g : Nat) (w0 w : World) (L : List Item) (hr : Rd w0 A l) (hc : l.length ≤ c) (hm : c ≤ maxLen) (hq : s.a ≤ l.length) (H : Hp w0 w (rrI g A l.length c s :: L)) :
    Calls Tryd.prog 72 #[.pointer (some ⟨g, 0, none⟩)] w (RetH w0 (rrI g A l.length c (rnP l (rnP l s 6) 1) :: L) (.agg (baC (leN (rnV l s 6) : Nat) (leN (rnV l (rnP l s 6) 1) : Nat)).toArray)) := by
  have hq2 := rnP_le (n := 6) hq
  obtain ⟨N, h1⟩ : ∃ N, leN (rnV l s 6) = N := ⟨_, rfl⟩
  obtain ⟨s1, h2⟩ : ∃ N, rnP l s 6 = N := ⟨_, rfl⟩
  rw [h1]
  rw [h2] at hq2 ⊢
  obtain ⟨M, h3⟩ : ∃ N, leN (rnV l s1 1) = N := ⟨_, rfl⟩
  obtain ⟨s2, h4⟩ : ∃ N, rnP l s1 1 = N := ⟨_, rfl⟩
  rw [h3, h4]
  have HN1 := Lib.hid h1
  have HS1 := Lib.hid h2
  have HN2 := Lib.hid h3
  have HS2 := Lib.hid h4
  clear h1 h2 h3 h4
  go_enter Tryd.func72, Tryd.ntmps72
  go_wp2_with (first | ((with_reducible refine Hp.allo (ty := 23) H ?_); refine ⟨rfl, ?_⟩; refine ⟨_, z_look rfl, ?_⟩; (clear H; intro gb w1 H); (replace H := H.rot2); go_frame) | ((with_reducible refine Hp.sta H ?_); refine ⟨rfl, ?_⟩; refine ⟨_, s_look rfl, ?_⟩; refine ⟨_, rfl, _, rfl, rfl, ?_⟩; (first | refine ⟨_, _, _, .z, ?_⟩ | refine ⟨_, _, _, .s .z, ?_⟩); refine ⟨rfl, rfl, ?_⟩; (clear H; intro w1 H; simp only [List.set] at H); go_frame) | ((with_reducible refine Hp.bdl H ?_); refine ⟨rfl, _, b_balq _ _, ?_⟩; go_frame) | ((with_reducible refine (qnum_v HS1.out HN1.out A c g w0 _ _ hr hc hm hq six_le6 H six_int).mono ?_); rintro _ w1 ⟨rfl, HQ⟩; replace H := HQ; clear HQ) | ((with_reducible refine (qnum_v HS2.out HN2.out A c g w0 _ _ hr hc hm hq2 one_le6 H one_int).mono ?_); rintro _ w1 ⟨rfl, HQ⟩; replace H := HQ; clear HQ))
  exact bodyPost_ret (results_c rfl rfl (H.var (by kernel_rfl) (t := 23) (cs := baC (N : Nat) (M : Nat)) (.s .z) s_Ballot)) rfl ⟨rfl, H.rot2.tail⟩
end Go.Proofs.YtajgikjmoeemnaaDoor
