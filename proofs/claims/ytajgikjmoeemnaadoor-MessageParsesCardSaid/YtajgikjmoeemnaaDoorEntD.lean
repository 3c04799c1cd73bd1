/-
  THE WALKS OF entry's Read, Print, Parse.
-/
import Derived.Test.YtajgikjmoeemnaaDoorPk3
namespace Go.Proofs.YtajgikjmoeemnaaDoor
set_option maxRecDepth 100000
open Go.RowKit
set_option linter.unusedVariables false
set_option linter.unusedSimpArgs false
theorem pget_v (A : Option Addr) (c : Nat) (l : List UInt8) (r : Rs) (width v : Int) (r' : Rs) (hv : gN l r width = v) (hr' : gR l r width = r') (g : Nat) (w0 w : World) (L : List Item) (hr : Rd w0 A l) (hc : l.length ≤ c) (hm : c ≤ maxLen) (H : Hp w0 w (penR g A l.length c r :: L)) :
    Calls Tryd.prog 91 #[.pointer (some ⟨g, 0, none⟩), .int .i64 width] w (RetH w0 (penR g A l.length c r' :: L) (.int .i64 v)) := by
  subst hv hr'
  exact pget_any A c l r width g w0 w L hr hc hm H
set_option maxHeartbeats 2000000 in
theorem textsR_any (A : Option Addr) (c : Nat) (l : List UInt8) (e : En) (r : Rs) (g g2 : Nat) (w0 w : World) (L : List Item) (hr : Rd w0 A l) (hc : l.length ≤ c) (hm : c ≤ maxLen) (H : Hp w0 w (penR g A l.length c r :: .blk g2 27 (enC e) :: L)) :
    Calls Tryd.prog 92 #[.pointer (some ⟨g, 0, none⟩), .pointer (some ⟨g2, 3, none⟩), .func (.func 93) #[] #[]] w
      (RetH w0 (penR g A l.length c (tR l (tR l (tR l r))) :: .blk g2 27 (enC ⟨e.k, e.c, e.s, e.ok, tV l r e.s0, tV l (tR l r) e.s1, tV l (tR l (tR l r)) e.s2⟩) :: L) (.tuple #[])) := by
  have k0 := i3_0
  have k1 := i3_1
  have k2 := i3_2
  have x0 : (enC e)[4]? = some (.string e.s0) := rfl
  have x1 : (enC ⟨e.k, e.c, e.s, e.ok, tV l r e.s0, e.s1, e.s2⟩)[5]? = some (.string e.s1) := rfl
  have x2 : (enC ⟨e.k, e.c, e.s, e.ok, tV l r e.s0, tV l (tR l r) e.s1, e.s2⟩)[6]? = some (.string e.s2) := rfl
  go_enter Tryd.func92, Tryd.ntmps92
  go_wp2_with (first | (fail))
  ((with_reducible refine wp_region_hpK H (by kernel_rfl) (by kernel_rfl) ?_); intro _ KQ hKQ; (repeat (first | go_big_quiet_step ((fail)))); (with_reducible refine wpQuiet_nil (hKQ _ ?_)); clear hKQ; clear KQ H; intro w1 H)
  go_wp2_with (first | (fail))
  refine wp_loop_rounds 4 ?_
  rw [rounds_succ]
  go_wp2_with (first | (fail))
  ((with_reducible refine (pread_any A c l r _ _ _ _ _ _ _ _ _ hr hc hm H x0).mono ?_); rintro _ w1 ⟨rfl, H1⟩)
  clear H
  have H : Hp w0 w1 (penR g A l.length c (tR l r) :: .blk g2 27 (enC ⟨e.k, e.c, e.s, e.ok, tV l r e.s0, e.s1, e.s2⟩) :: L) := H1
  clear H1
  go_wp2_with (first | (fail))
  rw [rounds_succ]
  go_wp2_with (first | (fail))
  ((with_reducible refine (pread_any A c l (tR l r) _ _ _ _ _ _ _ _ _ hr hc hm H x1).mono ?_); rintro _ w1 ⟨rfl, H1⟩)
  clear H
  have H : Hp w0 w1 (penR g A l.length c (tR l (tR l r)) :: .blk g2 27 (enC ⟨e.k, e.c, e.s, e.ok, tV l r e.s0, tV l (tR l r) e.s1, e.s2⟩) :: L) := H1
  clear H1
  go_wp2_with (first | (fail))
  rw [rounds_succ]
  go_wp2_with (first | (fail))
  ((with_reducible refine (pread_any A c l (tR l (tR l r)) _ _ _ _ _ _ _ _ _ hr hc hm H x2).mono ?_); rintro _ w1 ⟨rfl, H1⟩)
  clear H
  have H : Hp w0 w1 (penR g A l.length c (tR l (tR l (tR l r))) :: .blk g2 27 (enC ⟨e.k, e.c, e.s, e.ok, tV l r e.s0, tV l (tR l r) e.s1, tV l (tR l (tR l r)) e.s2⟩) :: L) := H1
  clear H1
  go_wp2_with (first | (fail))
  rw [rounds_succ]
  go_wp2_with (first | (fail))
  go_end0
  exact ⟨rfl, H⟩
theorem tV_empty (l : List UInt8) (r : Rs) : tV l r .empty = bs (tS l r) := by
  unfold tV tS
  split <;> rfl
theorem sm_bs {l : List UInt8} (hm : l.length ≤ maxLen) (k c s ok : Int) (x y z : Rs) : Sm ⟨k, c, s, ok, bs (tS l x), bs (tS l y), bs (tS l z)⟩ := by
  have h1 := tS_length l x
  have h2 := tS_length l y
  have h3 := tS_length l z
  exact ⟨by show (bs (tS l x)).size ≤ maxLen; rw [bs_size]; omega, by show (bs (tS l y)).size ≤ maxLen; rw [bs_size]; omega, by show (bs (tS l z)).size ≤ maxLen; rw [bs_size]; omega⟩
theorem b_enk (k : Int) : Tryd.prog.built 27 [(0, .int .u8 k)] = some (enC ⟨k, 0, 0, 0, .empty, .empty, .empty⟩).toArray := by kernel_rfl
theorem b_en0d : Tryd.prog.built 27 [] = some (enC en0).toArray := by kernel_rfl
theorem b_pen (A : Option Addr) (n c : Nat) (a : Int) : Tryd.prog.built 123 [(0, .slice A n c), (1, .int .i64 a)] = some [.slice A n c, .int .i64 a, .bool false].toArray := by kernel_rfl
/-- what Read comes to -/
def RetER (l : List UInt8) (a : Int) (w : World) : Ending → World → Prop := RetV w (.tuple #[.agg (enC (erV l a)).toArray, .int .i64 (erN l a), .int .i64 (erE l a)])
theorem retER_no {l : List UInt8} {a : Int} {w w' : World} (h0 : 0 ≤ a) (h1 : a ≤ l.length) (h : ((mR l a).bad || !mayB (mEn l a)) = true) (hb : Below w.heap.size w w') : RetER l a w (.returned (.tuple #[.agg (enC en0).toArray, .int .i64 0, .int .i64 90])) w' := by
  obtain ⟨e1, e2, e3⟩ := er_cases (l := l) h0 h1
  unfold RetER
  rw [e1, e2, e3, if_pos h, if_pos h, if_pos h]
  exact ⟨rfl, hb⟩
theorem retER_yes {l : List UInt8} {a : Int} {w w' : World} (h0 : 0 ≤ a) (h1 : a ≤ l.length) (h : ((mR l a).bad || !mayB (mEn l a)) = false) {E : En} {p : Int} (hE : mEn l a = E) (hp : (mR l a).at_ = p) (hb : Below w.heap.size w w') : RetER l a w (.returned (.tuple #[.agg (enC E).toArray, .int .i64 p, .int .i64 0])) w' := by
  obtain ⟨e1, e2, e3⟩ := er_cases (l := l) h0 h1
  unfold RetER
  rw [e1, e2, e3, if_neg (by rw [h]; decide), if_neg (by rw [h]; decide), if_neg (by rw [h]; decide), hE, hp]
  exact ⟨rfl, hb⟩
set_option maxHeartbeats 2000000 in
theorem eread_one (A : Option Addr) (c : Nat) (l : List UInt8) (a : Int) (w : World) (hr : Rd w A l) (hc : l.length ≤ c) (hm : c ≤ maxLen) (h0 : 0 ≤ a) (h1 : a ≤ l.length) (hk : rdK l a ≠ 2) :
    Calls Tryd.prog 86 #[.slice A l.length c, .int .i64 a] w (RetER l a w) := by
  have H := Hp.nil w
  have d0 : decide (a < 0) = false := decide_eq_false (by omega)
  have d1 : decide ((l.length : Int) < a) = false := decide_eq_false (by omega)
  have hu := gN_byte l ⟨a, false⟩
  have hE : mEn l a = ⟨rdK l a, 0, 0, 0, .empty, .empty, .empty⟩ := by unfold mEn; rw [if_neg hk]
  have hR : mR l a = r1 l a := by unfold mR; rw [if_neg hk]
  unfold rdK at hE hk
  unfold r1 at hR
  obtain ⟨K, hK⟩ : ∃ x, gN l ⟨a, false⟩ 1 = x := ⟨_, rfl⟩
  obtain ⟨R1, hR1⟩ : ∃ x, gR l ⟨a, false⟩ 1 = x := ⟨_, rfl⟩
  rw [hK] at hu hE hk
  rw [hR1] at hR
  have hw : IntKind.u8.wrap K = K := by unfold IntKind.wrap; simp [IntKind.signed, IntKind.bits]; omega
  have hkk : (K == 2) = false := beq_eq_false_iff_ne.mpr hk
  have hsm : Sm ⟨K, 0, 0, 0, .empty, .empty, .empty⟩ := ⟨Nat.zero_le _, Nat.zero_le _, Nat.zero_le _⟩
  have HK := Lib.hid hK
  have HR1 := Lib.hid hR1
  have HE := Lib.hid hE
  have HR := Lib.hid hR
  clear hK hR1 hk hE hR
  obtain ⟨P1, B1⟩ := R1
  cases B1
  · cases hmay : mayB ⟨K, 0, 0, 0, .empty, .empty, .empty⟩
    · go_enter Tryd.func86, Tryd.ntmps86
      go_wp2_with (first | ((with_reducible refine Hp.allo (ty := 27) H ?_); refine ⟨rfl, ?_⟩; refine ⟨_, z_look rfl, ?_⟩; (clear H; intro gE w1 H); go_frame) | ((with_reducible refine Hp.allo (ty := 123) H ?_); refine ⟨rfl, ?_⟩; refine ⟨_, z_look rfl, ?_⟩; (clear H; intro gp w1 H); go_frame) | ((with_reducible refine Hp.sta H ?_); refine ⟨rfl, ?_⟩; refine ⟨_, s_look rfl, ?_⟩; refine ⟨_, rfl, _, rfl, rfl, ?_⟩; ((repeat ((fail_if_success refine ⟨_, _, _, .z, ?_⟩); refine hs ?_)); refine ⟨_, _, _, .z, ?_⟩); refine ⟨rfl, rfl, ?_⟩; (clear H; intro w1 H; simp only [List.set] at H); go_frame) | ((with_reducible refine Hp.bdl (t := 123) (parts := [_, _]) H ?_); refine ⟨rfl, _, b_pen _ _ _ _, ?_⟩; go_frame))
      ((with_reducible refine (pget_v A c l ⟨a, false⟩ _ _ _ HK.out HR1.out _ _ _ _ hr hc hm H).mono ?_); rintro _ w1 ⟨rfl, H1⟩; clear H; have H := H1; clear H1)
      go_wp2_with (first | ((with_reducible refine Hp.allo (ty := 27) H ?_); refine ⟨rfl, ?_⟩; refine ⟨_, z_look rfl, ?_⟩; (clear H; intro gE w1 H); go_frame) | ((with_reducible refine Hp.ld H ?_); refine ⟨rfl, ?_⟩; refine ⟨c_look rfl, ?_⟩; refine ⟨_, _, rfl, ?_⟩; ((repeat ((fail_if_success refine ⟨_, _, _, .z, ?_⟩); refine hs ?_)); refine ⟨_, _, _, .z, ?_⟩); refine ⟨_, rfl, ?_⟩; go_frame) | ((with_reducible refine Hp.lda H ?_); refine ⟨rfl, by kernel_rfl, ?_⟩; refine ⟨_, s_look rfl, ?_⟩; refine ⟨_, rfl, ?_⟩; ((repeat ((fail_if_success refine ⟨_, _, _, .z, ?_⟩); refine hs ?_)); refine ⟨_, _, _, .z, ?_⟩); refine ⟨rfl, ?_⟩; go_frame) | ((with_reducible refine Hp.sta H ?_); refine ⟨rfl, ?_⟩; refine ⟨_, s_look rfl, ?_⟩; refine ⟨_, rfl, _, rfl, rfl, ?_⟩; ((repeat ((fail_if_success refine ⟨_, _, _, .z, ?_⟩); refine hs ?_)); refine ⟨_, _, _, .z, ?_⟩); refine ⟨rfl, rfl, ?_⟩; (clear H; intro w1 H; simp only [List.set] at H); go_frame) | ((with_reducible refine Hp.bdl (t := 27) (parts := [_]) H ?_); refine ⟨rfl, _, b_enk _, ?_⟩; go_frame) | ((with_reducible refine Hp.bdl (t := 27) (parts := []) H ?_); refine ⟨rfl, _, b_en0d, ?_⟩; go_frame) | ((with_reducible refine (may_b _ _ _ hmay hsm).mono ?_); rintro _ w1 ⟨rfl, hb⟩; replace H := H.call hb; clear hb))
      exact bodyPost_ret (v := .tuple #[.agg (enC en0).toArray, .int .i64 0, .int .i64 90]) (results_ctt rfl rfl (H.var (by kernel_rfl) (t := 27) (cs := enC en0) (.s (.s .z)) s_Entry) rfl rfl) rfl (retER_no h0 h1 (by rw [HR.out, HE.out]; simp [hmay]) H.below)
    · go_enter Tryd.func86, Tryd.ntmps86
      go_wp2_with (first | ((with_reducible refine Hp.allo (ty := 27) H ?_); refine ⟨rfl, ?_⟩; refine ⟨_, z_look rfl, ?_⟩; (clear H; intro gE w1 H); go_frame) | ((with_reducible refine Hp.allo (ty := 123) H ?_); refine ⟨rfl, ?_⟩; refine ⟨_, z_look rfl, ?_⟩; (clear H; intro gp w1 H); go_frame) | ((with_reducible refine Hp.sta H ?_); refine ⟨rfl, ?_⟩; refine ⟨_, s_look rfl, ?_⟩; refine ⟨_, rfl, _, rfl, rfl, ?_⟩; ((repeat ((fail_if_success refine ⟨_, _, _, .z, ?_⟩); refine hs ?_)); refine ⟨_, _, _, .z, ?_⟩); refine ⟨rfl, rfl, ?_⟩; (clear H; intro w1 H; simp only [List.set] at H); go_frame) | ((with_reducible refine Hp.bdl (t := 123) (parts := [_, _]) H ?_); refine ⟨rfl, _, b_pen _ _ _ _, ?_⟩; go_frame))
      ((with_reducible refine (pget_v A c l ⟨a, false⟩ _ _ _ HK.out HR1.out _ _ _ _ hr hc hm H).mono ?_); rintro _ w1 ⟨rfl, H1⟩; clear H; have H := H1; clear H1)
      go_wp2_with (first | ((with_reducible refine Hp.allo (ty := 27) H ?_); refine ⟨rfl, ?_⟩; refine ⟨_, z_look rfl, ?_⟩; (clear H; intro gE w1 H); go_frame) | ((with_reducible refine Hp.ld H ?_); refine ⟨rfl, ?_⟩; refine ⟨c_look rfl, ?_⟩; refine ⟨_, _, rfl, ?_⟩; ((repeat ((fail_if_success refine ⟨_, _, _, .z, ?_⟩); refine hs ?_)); refine ⟨_, _, _, .z, ?_⟩); refine ⟨_, rfl, ?_⟩; go_frame) | ((with_reducible refine Hp.lda H ?_); refine ⟨rfl, by kernel_rfl, ?_⟩; refine ⟨_, s_look rfl, ?_⟩; refine ⟨_, rfl, ?_⟩; ((repeat ((fail_if_success refine ⟨_, _, _, .z, ?_⟩); refine hs ?_)); refine ⟨_, _, _, .z, ?_⟩); refine ⟨rfl, ?_⟩; go_frame) | ((with_reducible refine Hp.sta H ?_); refine ⟨rfl, ?_⟩; refine ⟨_, s_look rfl, ?_⟩; refine ⟨_, rfl, _, rfl, rfl, ?_⟩; ((repeat ((fail_if_success refine ⟨_, _, _, .z, ?_⟩); refine hs ?_)); refine ⟨_, _, _, .z, ?_⟩); refine ⟨rfl, rfl, ?_⟩; (clear H; intro w1 H; simp only [List.set] at H); go_frame) | ((with_reducible refine Hp.bdl (t := 27) (parts := [_]) H ?_); refine ⟨rfl, _, b_enk _, ?_⟩; go_frame) | ((with_reducible refine (may_b _ _ _ hmay hsm).mono ?_); rintro _ w1 ⟨rfl, hb⟩; replace H := H.call hb; clear hb))
      (replace H := Hp.pick H (L' := [_, _, _]) [2, 0, 1] (by decide) rfl; refine hw_start [_] [_, _] H (by kernel_rfl) (fun w1 H => ?_); have hS : HpW _ _ w1 := ⟨[_], H⟩; (refine hw_take hS 1 (by decide +kernel) (by decide +kernel) (by decide +kernel) ⟨_, rfl, rfl, ?_, ?_, fun _ _ _ h => h, ?_⟩; rotate_left; (intro w _; go_simp; try with_reducible rfl); go_frame); (refine hw_take hS 0 (by decide +kernel) (by decide +kernel) (by decide +kernel) ⟨_, rfl, rfl, _, fun w h => ex_load rfl rfl (hw_lda (by kernel_rfl) s_Entry .z rfl w h), fun _ _ _ h => h, ?_⟩; go_frame); (refine hw_take hS 2 (by decide +kernel) (by decide +kernel) (by decide +kernel) ⟨_, rfl, rfl, _, fun w h => ex_load rfl rfl (hw_ld c_int (.s .z) rfl w h), fun _ _ _ h => h, ?_⟩; go_frame); (refine hw_one 3 (by decide +kernel) ⟨_, rfl, rfl, fun KQ hKQ => ?_⟩; refine hw_sta (vs := enC ⟨K, 0, 0, 0, .empty, .empty, .empty⟩) rfl rfl rfl H s_Entry .z rfl rfl rfl (fun w1 H => hKQ _ _ ⟨[_], H⟩ ?_); clear hKQ KQ; go_frame; have hS : HpW _ _ w1 := ⟨[_], H⟩); (refine hw_take hS 4 (by decide +kernel) (by decide +kernel) (by decide +kernel) ⟨_, rfl, rfl, ?_, ?_, fun _ _ _ h => h, ?_⟩; rotate_left; (intro w _; go_simp; try with_reducible rfl); go_frame); (refine hw_take hS 5 (by decide +kernel) (by decide +kernel) (by decide +kernel) ⟨_, rfl, rfl, ?_, ?_, fun _ _ _ h => h, ?_⟩; rotate_left; (intro w _; go_simp; try with_reducible rfl); go_frame); refine wpAnyH_done (by kernel_rfl) ?_ _)
      go_wp2_with (first | (fail))
      exact bodyPost_ret (v := .tuple #[.agg (enC ⟨K, 0, 0, 0, .empty, .empty, .empty⟩).toArray, .int .i64 P1, .int .i64 0]) (results_ctt rfl rfl (H.var (by kernel_rfl) (t := 27) (cs := enC ⟨K, 0, 0, 0, .empty, .empty, .empty⟩) .z s_Entry) rfl rfl) rfl (retER_yes h0 h1 (by rw [HR.out, HE.out, hmay]; rfl) HE.out (by rw [HR.out]) H.below)
  · have hmay := True.intro
    go_enter Tryd.func86, Tryd.ntmps86
    go_wp2_with (first | ((with_reducible refine Hp.allo (ty := 27) H ?_); refine ⟨rfl, ?_⟩; refine ⟨_, z_look rfl, ?_⟩; (clear H; intro gE w1 H); go_frame) | ((with_reducible refine Hp.allo (ty := 123) H ?_); refine ⟨rfl, ?_⟩; refine ⟨_, z_look rfl, ?_⟩; (clear H; intro gp w1 H); go_frame) | ((with_reducible refine Hp.sta H ?_); refine ⟨rfl, ?_⟩; refine ⟨_, s_look rfl, ?_⟩; refine ⟨_, rfl, _, rfl, rfl, ?_⟩; ((repeat ((fail_if_success refine ⟨_, _, _, .z, ?_⟩); refine hs ?_)); refine ⟨_, _, _, .z, ?_⟩); refine ⟨rfl, rfl, ?_⟩; (clear H; intro w1 H; simp only [List.set] at H); go_frame) | ((with_reducible refine Hp.bdl (t := 123) (parts := [_, _]) H ?_); refine ⟨rfl, _, b_pen _ _ _ _, ?_⟩; go_frame))
    ((with_reducible refine (pget_v A c l ⟨a, false⟩ _ _ _ HK.out HR1.out _ _ _ _ hr hc hm H).mono ?_); rintro _ w1 ⟨rfl, H1⟩; clear H; have H := H1; clear H1)
    go_wp2_with (first | ((with_reducible refine Hp.allo (ty := 27) H ?_); refine ⟨rfl, ?_⟩; refine ⟨_, z_look rfl, ?_⟩; (clear H; intro gE w1 H); go_frame) | ((with_reducible refine Hp.ld H ?_); refine ⟨rfl, ?_⟩; refine ⟨c_look rfl, ?_⟩; refine ⟨_, _, rfl, ?_⟩; ((repeat ((fail_if_success refine ⟨_, _, _, .z, ?_⟩); refine hs ?_)); refine ⟨_, _, _, .z, ?_⟩); refine ⟨_, rfl, ?_⟩; go_frame) | ((with_reducible refine Hp.sta H ?_); refine ⟨rfl, ?_⟩; refine ⟨_, s_look rfl, ?_⟩; refine ⟨_, rfl, _, rfl, rfl, ?_⟩; ((repeat ((fail_if_success refine ⟨_, _, _, .z, ?_⟩); refine hs ?_)); refine ⟨_, _, _, .z, ?_⟩); refine ⟨rfl, rfl, ?_⟩; (clear H; intro w1 H; simp only [List.set] at H); go_frame) | ((with_reducible refine Hp.bdl (t := 27) (parts := [_]) H ?_); refine ⟨rfl, _, b_enk _, ?_⟩; go_frame) | ((with_reducible refine Hp.bdl (t := 27) (parts := []) H ?_); refine ⟨rfl, _, b_en0d, ?_⟩; go_frame))
    exact bodyPost_ret (v := .tuple #[.agg (enC en0).toArray, .int .i64 0, .int .i64 90]) (results_ctt rfl rfl (H.var (by kernel_rfl) (t := 27) (cs := enC en0) (.s (.s .z)) s_Entry) rfl rfl) rfl (retER_no h0 h1 (by rw [HR.out]; rfl) H.below)
set_option maxHeartbeats 4000000 in
theorem eread_two (A : Option Addr) (c : Nat) (l : List UInt8) (a : Int) (w : World) (hr : Rd w A l) (hc : l.length ≤ c) (hm : c ≤ maxLen) (h0 : 0 ≤ a) (h1 : a ≤ l.length) (hk : rdK l a = 2) :
    Calls Tryd.prog 86 #[.slice A l.length c, .int .i64 a] w (RetER l a w) := by
  have H := Hp.nil w
  have d0 : decide (a < 0) = false := decide_eq_false (by omega)
  have d1 : decide ((l.length : Int) < a) = false := decide_eq_false (by omega)
  have hE : mEn l a = ⟨2, gN l (r1 l a) 1, gN l (r2 l a) 6, gN l (r3 l a) 1, bs (tS l (r4 l a)), bs (tS l (r5 l a)), bs (tS l (r6 l a))⟩ := by unfold mEn; rw [if_pos hk]
  have hR : mR l a = r7 l a := by unfold mR; rw [if_pos hk]
  have hu := gN_byte l (r3 l a)
  have hsm := sm_bs (l := l) (Nat.le_trans hc hm) 2 (gN l (r1 l a) 1) (gN l (r2 l a) 6) (gN l (r3 l a) 1) (r4 l a) (r5 l a) (r6 l a)
  have HK := Lib.hid (show gN l ⟨a, false⟩ 1 = 2 from hk)
  obtain ⟨R1, hR1⟩ : ∃ x, r1 l a = x := ⟨_, rfl⟩
  obtain ⟨R2, hR2⟩ : ∃ x, r2 l a = x := ⟨_, rfl⟩
  obtain ⟨R3, hR3⟩ : ∃ x, r3 l a = x := ⟨_, rfl⟩
  obtain ⟨R4, hR4⟩ : ∃ x, r4 l a = x := ⟨_, rfl⟩
  obtain ⟨R5, hR5⟩ : ∃ x, r5 l a = x := ⟨_, rfl⟩
  obtain ⟨R6, hR6⟩ : ∃ x, r6 l a = x := ⟨_, rfl⟩
  obtain ⟨R7, hR7⟩ : ∃ x, r7 l a = x := ⟨_, rfl⟩
  rw [hR1, hR2, hR3, hR4, hR5, hR6] at hE
  rw [hR3] at hu
  rw [hR1, hR2, hR3, hR4, hR5, hR6] at hsm
  rw [hR7] at hR
  have HR1 : Hid (gR l ⟨a, false⟩ 1 = R1) := Lib.hid hR1
  have HR2 : Hid (gR l R1 1 = R2) := Lib.hid (by rw [← hR1]; exact hR2)
  have HR3 : Hid (gR l R2 6 = R3) := Lib.hid (by rw [← hR2]; exact hR3)
  have HR4 : Hid (gR l R3 1 = R4) := Lib.hid (by rw [← hR3]; exact hR4)
  have HR5 : Hid (tR l R4 = R5) := Lib.hid (by rw [← hR4]; exact hR5)
  have HR6 : Hid (tR l R5 = R6) := Lib.hid (by rw [← hR5]; exact hR6)
  have HR7 : Hid (tR l R6 = R7) := Lib.hid (by rw [← hR6]; exact hR7)
  clear hR1 hR2 hR3 hR4 hR5 hR6 hR7 hk
  obtain ⟨C, hC⟩ : ∃ x, gN l R1 1 = x := ⟨_, rfl⟩
  obtain ⟨S, hS⟩ : ∃ x, gN l R2 6 = x := ⟨_, rfl⟩
  obtain ⟨O, hO⟩ : ∃ x, gN l R3 1 = x := ⟨_, rfl⟩
  obtain ⟨T0, hT0⟩ : ∃ x, bs (tS l R4) = x := ⟨_, rfl⟩
  obtain ⟨T1, hT1⟩ : ∃ x, bs (tS l R5) = x := ⟨_, rfl⟩
  obtain ⟨T2, hT2⟩ : ∃ x, bs (tS l R6) = x := ⟨_, rfl⟩
  rw [hC, hS, hO, hT0, hT1, hT2] at hE hsm
  rw [hO] at hu
  have hw : IntKind.u8.wrap O = O := by unfold IntKind.wrap; simp [IntKind.signed, IntKind.bits]; omega
  have HC := Lib.hid hC
  have HS := Lib.hid hS
  have HO := Lib.hid hO
  have HT0 := Lib.hid hT0
  have HT1 := Lib.hid hT1
  have HT2 := Lib.hid hT2
  have HE := Lib.hid hE
  have HR := Lib.hid hR
  clear hC hS hO hT0 hT1 hT2 hE hR
  obtain ⟨P7, B7⟩ := R7
  cases B7
  · cases hmay : mayB ⟨2, C, S, O, T0, T1, T2⟩
    · go_enter Tryd.func86, Tryd.ntmps86; go_wp2_with (first | ((with_reducible refine Hp.allo (ty := 27) H ?_); refine ⟨rfl, ?_⟩; refine ⟨_, z_look rfl, ?_⟩; (clear H; intro gE w1 H); go_frame) | ((with_reducible refine Hp.allo (ty := 123) H ?_); refine ⟨rfl, ?_⟩; refine ⟨_, z_look rfl, ?_⟩; (clear H; intro gp w1 H); go_frame) | ((with_reducible refine Hp.sta H ?_); refine ⟨rfl, ?_⟩; refine ⟨_, s_look rfl, ?_⟩; refine ⟨_, rfl, _, rfl, rfl, ?_⟩; ((repeat ((fail_if_success refine ⟨_, _, _, .z, ?_⟩); refine hs ?_)); refine ⟨_, _, _, .z, ?_⟩); refine ⟨rfl, rfl, ?_⟩; (clear H; intro w1 H; simp only [List.set] at H); go_frame) | ((with_reducible refine Hp.bdl (t := 123) (parts := [_, _]) H ?_); refine ⟨rfl, _, b_pen _ _ _ _, ?_⟩; go_frame)); ((with_reducible refine (pget_v A c l ⟨a, false⟩ _ _ _ HK.out HR1.out _ _ _ _ hr hc hm H).mono ?_); rintro _ w1 ⟨rfl, H1⟩; clear H; have H := H1; clear H1); go_wp2_with (first | ((with_reducible refine Hp.allo (ty := 27) H ?_); refine ⟨rfl, ?_⟩; refine ⟨_, z_look rfl, ?_⟩; (clear H; intro gE w1 H); go_frame) | ((with_reducible refine Hp.ld H ?_); refine ⟨rfl, ?_⟩; refine ⟨c_look rfl, ?_⟩; refine ⟨_, _, rfl, ?_⟩; ((repeat ((fail_if_success refine ⟨_, _, _, .z, ?_⟩); refine hs ?_)); refine ⟨_, _, _, .z, ?_⟩); refine ⟨_, rfl, ?_⟩; go_frame) | ((with_reducible refine Hp.sta H ?_); refine ⟨rfl, ?_⟩; refine ⟨_, s_look rfl, ?_⟩; refine ⟨_, rfl, _, rfl, rfl, ?_⟩; ((repeat ((fail_if_success refine ⟨_, _, _, .z, ?_⟩); refine hs ?_)); refine ⟨_, _, _, .z, ?_⟩); refine ⟨rfl, rfl, ?_⟩; (clear H; intro w1 H; simp only [List.set] at H); go_frame) | ((with_reducible refine Hp.bdl (t := 27) (parts := [_]) H ?_); refine ⟨rfl, _, b_enk _, ?_⟩; go_frame)); replace H := H.rot2; ((with_reducible refine (pget_v A c l R1 _ _ _ HC.out HR2.out _ _ _ _ hr hc hm H).mono ?_); rintro _ w1 ⟨rfl, H1⟩; clear H; have H := H1; clear H1); go_wp2_with (first | ((with_reducible refine Hp.stv H ?_); refine ⟨rfl, ?_⟩; refine ⟨c_look rfl, ?_⟩; (first | refine ⟨.bool _, rfl, ?_⟩ | refine ⟨.int _ _, rfl, ?_⟩ | refine ⟨.string _, rfl, ?_⟩ | refine ⟨.slice _ _ _, rfl, ?_⟩ | refine ⟨.pointer _, rfl, ?_⟩); refine ⟨rfl, _, _, rfl, ?_⟩; ((repeat ((fail_if_success refine ⟨_, _, _, .z, ?_⟩); refine hs ?_)); refine ⟨_, _, _, .z, ?_⟩); refine ⟨⟨_, rfl⟩, ?_⟩; (clear H; intro w1 H; simp only [List.set] at H); go_frame)); ((with_reducible refine (pget_v A c l R2 _ _ _ HS.out HR3.out _ _ _ _ hr hc hm H).mono ?_); rintro _ w1 ⟨rfl, H1⟩; clear H; have H := H1; clear H1); go_wp2_with (first | ((with_reducible refine Hp.stv H ?_); refine ⟨rfl, ?_⟩; refine ⟨c_look rfl, ?_⟩; (first | refine ⟨.bool _, rfl, ?_⟩ | refine ⟨.int _ _, rfl, ?_⟩ | refine ⟨.string _, rfl, ?_⟩ | refine ⟨.slice _ _ _, rfl, ?_⟩ | refine ⟨.pointer _, rfl, ?_⟩); refine ⟨rfl, _, _, rfl, ?_⟩; ((repeat ((fail_if_success refine ⟨_, _, _, .z, ?_⟩); refine hs ?_)); refine ⟨_, _, _, .z, ?_⟩); refine ⟨⟨_, rfl⟩, ?_⟩; (clear H; intro w1 H; simp only [List.set] at H); go_frame)); ((with_reducible refine (pget_v A c l R3 _ _ _ HO.out HR4.out _ _ _ _ hr hc hm H).mono ?_); rintro _ w1 ⟨rfl, H1⟩; clear H; have H := H1; clear H1); go_wp2_with (first | ((with_reducible refine Hp.stv H ?_); refine ⟨rfl, ?_⟩; refine ⟨c_look rfl, ?_⟩; (first | refine ⟨.bool _, rfl, ?_⟩ | refine ⟨.int _ _, rfl, ?_⟩ | refine ⟨.string _, rfl, ?_⟩ | refine ⟨.slice _ _ _, rfl, ?_⟩ | refine ⟨.pointer _, rfl, ?_⟩); refine ⟨rfl, _, _, rfl, ?_⟩; ((repeat ((fail_if_success refine ⟨_, _, _, .z, ?_⟩); refine hs ?_)); refine ⟨_, _, _, .z, ?_⟩); refine ⟨⟨_, rfl⟩, ?_⟩; (clear H; intro w1 H; simp only [List.set] at H); go_frame)); (with_reducible refine (textsR_any A c l ⟨2, C, S, O, .empty, .empty, .empty⟩ R4 _ _ _ _ _ hr hc hm H).mono ?_); rintro _ w1 ⟨rfl, H1⟩; clear H; simp only [tV_empty, HR5.out, HR6.out, HR7.out, HT0.out, HT1.out, HT2.out] at H1; have H := H1; clear H1; go_wp2_with (first | ((with_reducible refine Hp.ld H ?_); refine ⟨rfl, ?_⟩; refine ⟨c_look rfl, ?_⟩; refine ⟨_, _, rfl, ?_⟩; ((repeat ((fail_if_success refine ⟨_, _, _, .z, ?_⟩); refine hs ?_)); refine ⟨_, _, _, .z, ?_⟩); refine ⟨_, rfl, ?_⟩; go_frame) | ((with_reducible refine Hp.lda H ?_); refine ⟨rfl, by kernel_rfl, ?_⟩; refine ⟨_, s_look rfl, ?_⟩; refine ⟨_, rfl, ?_⟩; ((repeat ((fail_if_success refine ⟨_, _, _, .z, ?_⟩); refine hs ?_)); refine ⟨_, _, _, .z, ?_⟩); refine ⟨rfl, ?_⟩; go_frame) | ((with_reducible refine Hp.sta H ?_); refine ⟨rfl, ?_⟩; refine ⟨_, s_look rfl, ?_⟩; refine ⟨_, rfl, _, rfl, rfl, ?_⟩; ((repeat ((fail_if_success refine ⟨_, _, _, .z, ?_⟩); refine hs ?_)); refine ⟨_, _, _, .z, ?_⟩); refine ⟨rfl, rfl, ?_⟩; (clear H; intro w1 H; simp only [List.set] at H); go_frame) | ((with_reducible refine Hp.bdl (t := 27) (parts := []) H ?_); refine ⟨rfl, _, b_en0d, ?_⟩; go_frame) | ((with_reducible refine (may_b _ _ _ hmay hsm).mono ?_); rintro _ w1 ⟨rfl, hb⟩; replace H := H.call hb; clear hb))
      exact bodyPost_ret (v := .tuple #[.agg (enC en0).toArray, .int .i64 0, .int .i64 90]) (results_ctt rfl rfl (H.var (by kernel_rfl) (t := 27) (cs := enC en0) (.s (.s .z)) s_Entry) rfl rfl) rfl (retER_no h0 h1 (by rw [HR.out, HE.out]; simp [hmay]) H.below)
    · go_enter Tryd.func86, Tryd.ntmps86; go_wp2_with (first | ((with_reducible refine Hp.allo (ty := 27) H ?_); refine ⟨rfl, ?_⟩; refine ⟨_, z_look rfl, ?_⟩; (clear H; intro gE w1 H); go_frame) | ((with_reducible refine Hp.allo (ty := 123) H ?_); refine ⟨rfl, ?_⟩; refine ⟨_, z_look rfl, ?_⟩; (clear H; intro gp w1 H); go_frame) | ((with_reducible refine Hp.sta H ?_); refine ⟨rfl, ?_⟩; refine ⟨_, s_look rfl, ?_⟩; refine ⟨_, rfl, _, rfl, rfl, ?_⟩; ((repeat ((fail_if_success refine ⟨_, _, _, .z, ?_⟩); refine hs ?_)); refine ⟨_, _, _, .z, ?_⟩); refine ⟨rfl, rfl, ?_⟩; (clear H; intro w1 H; simp only [List.set] at H); go_frame) | ((with_reducible refine Hp.bdl (t := 123) (parts := [_, _]) H ?_); refine ⟨rfl, _, b_pen _ _ _ _, ?_⟩; go_frame)); ((with_reducible refine (pget_v A c l ⟨a, false⟩ _ _ _ HK.out HR1.out _ _ _ _ hr hc hm H).mono ?_); rintro _ w1 ⟨rfl, H1⟩; clear H; have H := H1; clear H1); go_wp2_with (first | ((with_reducible refine Hp.allo (ty := 27) H ?_); refine ⟨rfl, ?_⟩; refine ⟨_, z_look rfl, ?_⟩; (clear H; intro gE w1 H); go_frame) | ((with_reducible refine Hp.ld H ?_); refine ⟨rfl, ?_⟩; refine ⟨c_look rfl, ?_⟩; refine ⟨_, _, rfl, ?_⟩; ((repeat ((fail_if_success refine ⟨_, _, _, .z, ?_⟩); refine hs ?_)); refine ⟨_, _, _, .z, ?_⟩); refine ⟨_, rfl, ?_⟩; go_frame) | ((with_reducible refine Hp.sta H ?_); refine ⟨rfl, ?_⟩; refine ⟨_, s_look rfl, ?_⟩; refine ⟨_, rfl, _, rfl, rfl, ?_⟩; ((repeat ((fail_if_success refine ⟨_, _, _, .z, ?_⟩); refine hs ?_)); refine ⟨_, _, _, .z, ?_⟩); refine ⟨rfl, rfl, ?_⟩; (clear H; intro w1 H; simp only [List.set] at H); go_frame) | ((with_reducible refine Hp.bdl (t := 27) (parts := [_]) H ?_); refine ⟨rfl, _, b_enk _, ?_⟩; go_frame)); replace H := H.rot2; ((with_reducible refine (pget_v A c l R1 _ _ _ HC.out HR2.out _ _ _ _ hr hc hm H).mono ?_); rintro _ w1 ⟨rfl, H1⟩; clear H; have H := H1; clear H1); go_wp2_with (first | ((with_reducible refine Hp.stv H ?_); refine ⟨rfl, ?_⟩; refine ⟨c_look rfl, ?_⟩; (first | refine ⟨.bool _, rfl, ?_⟩ | refine ⟨.int _ _, rfl, ?_⟩ | refine ⟨.string _, rfl, ?_⟩ | refine ⟨.slice _ _ _, rfl, ?_⟩ | refine ⟨.pointer _, rfl, ?_⟩); refine ⟨rfl, _, _, rfl, ?_⟩; ((repeat ((fail_if_success refine ⟨_, _, _, .z, ?_⟩); refine hs ?_)); refine ⟨_, _, _, .z, ?_⟩); refine ⟨⟨_, rfl⟩, ?_⟩; (clear H; intro w1 H; simp only [List.set] at H); go_frame)); ((with_reducible refine (pget_v A c l R2 _ _ _ HS.out HR3.out _ _ _ _ hr hc hm H).mono ?_); rintro _ w1 ⟨rfl, H1⟩; clear H; have H := H1; clear H1); go_wp2_with (first | ((with_reducible refine Hp.stv H ?_); refine ⟨rfl, ?_⟩; refine ⟨c_look rfl, ?_⟩; (first | refine ⟨.bool _, rfl, ?_⟩ | refine ⟨.int _ _, rfl, ?_⟩ | refine ⟨.string _, rfl, ?_⟩ | refine ⟨.slice _ _ _, rfl, ?_⟩ | refine ⟨.pointer _, rfl, ?_⟩); refine ⟨rfl, _, _, rfl, ?_⟩; ((repeat ((fail_if_success refine ⟨_, _, _, .z, ?_⟩); refine hs ?_)); refine ⟨_, _, _, .z, ?_⟩); refine ⟨⟨_, rfl⟩, ?_⟩; (clear H; intro w1 H; simp only [List.set] at H); go_frame)); ((with_reducible refine (pget_v A c l R3 _ _ _ HO.out HR4.out _ _ _ _ hr hc hm H).mono ?_); rintro _ w1 ⟨rfl, H1⟩; clear H; have H := H1; clear H1); go_wp2_with (first | ((with_reducible refine Hp.stv H ?_); refine ⟨rfl, ?_⟩; refine ⟨c_look rfl, ?_⟩; (first | refine ⟨.bool _, rfl, ?_⟩ | refine ⟨.int _ _, rfl, ?_⟩ | refine ⟨.string _, rfl, ?_⟩ | refine ⟨.slice _ _ _, rfl, ?_⟩ | refine ⟨.pointer _, rfl, ?_⟩); refine ⟨rfl, _, _, rfl, ?_⟩; ((repeat ((fail_if_success refine ⟨_, _, _, .z, ?_⟩); refine hs ?_)); refine ⟨_, _, _, .z, ?_⟩); refine ⟨⟨_, rfl⟩, ?_⟩; (clear H; intro w1 H; simp only [List.set] at H); go_frame)); (with_reducible refine (textsR_any A c l ⟨2, C, S, O, .empty, .empty, .empty⟩ R4 _ _ _ _ _ hr hc hm H).mono ?_); rintro _ w1 ⟨rfl, H1⟩; clear H; simp only [tV_empty, HR5.out, HR6.out, HR7.out, HT0.out, HT1.out, HT2.out] at H1; have H := H1; clear H1; go_wp2_with (first | ((with_reducible refine Hp.ld H ?_); refine ⟨rfl, ?_⟩; refine ⟨c_look rfl, ?_⟩; refine ⟨_, _, rfl, ?_⟩; ((repeat ((fail_if_success refine ⟨_, _, _, .z, ?_⟩); refine hs ?_)); refine ⟨_, _, _, .z, ?_⟩); refine ⟨_, rfl, ?_⟩; go_frame) | ((with_reducible refine Hp.lda H ?_); refine ⟨rfl, by kernel_rfl, ?_⟩; refine ⟨_, s_look rfl, ?_⟩; refine ⟨_, rfl, ?_⟩; ((repeat ((fail_if_success refine ⟨_, _, _, .z, ?_⟩); refine hs ?_)); refine ⟨_, _, _, .z, ?_⟩); refine ⟨rfl, ?_⟩; go_frame) | ((with_reducible refine (may_b _ _ _ hmay hsm).mono ?_); rintro _ w1 ⟨rfl, hb⟩; replace H := H.call hb; clear hb))
      (replace H := Hp.pick H (L' := [_, _, _]) [2, 1, 0] (by decide) rfl; refine hw_start [_] [_, _] H (by kernel_rfl) (fun w1 H => ?_); have hS : HpW _ _ w1 := ⟨[_], H⟩; (refine hw_take hS 1 (by decide +kernel) (by decide +kernel) (by decide +kernel) ⟨_, rfl, rfl, ?_, ?_, fun _ _ _ h => h, ?_⟩; rotate_left; (intro w _; go_simp; try with_reducible rfl); go_frame); (refine hw_take hS 0 (by decide +kernel) (by decide +kernel) (by decide +kernel) ⟨_, rfl, rfl, _, fun w h => ex_load rfl rfl (hw_lda (by kernel_rfl) s_Entry .z rfl w h), fun _ _ _ h => h, ?_⟩; go_frame); (refine hw_take hS 2 (by decide +kernel) (by decide +kernel) (by decide +kernel) ⟨_, rfl, rfl, _, fun w h => ex_load rfl rfl (hw_ld c_int (.s .z) rfl w h), fun _ _ _ h => h, ?_⟩; go_frame); (refine hw_one 3 (by decide +kernel) ⟨_, rfl, rfl, fun KQ hKQ => ?_⟩; refine hw_sta (vs := enC ⟨2, C, S, O, T0, T1, T2⟩) rfl rfl rfl H s_Entry .z rfl rfl rfl (fun w1 H => hKQ _ _ ⟨[_], H⟩ ?_); clear hKQ KQ; go_frame; have hS : HpW _ _ w1 := ⟨[_], H⟩); (refine hw_take hS 4 (by decide +kernel) (by decide +kernel) (by decide +kernel) ⟨_, rfl, rfl, ?_, ?_, fun _ _ _ h => h, ?_⟩; rotate_left; (intro w _; go_simp; try with_reducible rfl); go_frame); (refine hw_take hS 5 (by decide +kernel) (by decide +kernel) (by decide +kernel) ⟨_, rfl, rfl, ?_, ?_, fun _ _ _ h => h, ?_⟩; rotate_left; (intro w _; go_simp; try with_reducible rfl); go_frame); refine wpAnyH_done (by kernel_rfl) ?_ _)
      go_wp2_with (first | (fail))
      exact bodyPost_ret (v := .tuple #[.agg (enC ⟨2, C, S, O, T0, T1, T2⟩).toArray, .int .i64 P7, .int .i64 0]) (results_ctt rfl rfl (H.var (by kernel_rfl) (t := 27) (cs := enC ⟨2, C, S, O, T0, T1, T2⟩) .z s_Entry) rfl rfl) rfl (retER_yes h0 h1 (by rw [HR.out, HE.out, hmay]; rfl) HE.out (by rw [HR.out]) H.below)
  · have hmay := True.intro
    go_enter Tryd.func86, Tryd.ntmps86; go_wp2_with (first | ((with_reducible refine Hp.allo (ty := 27) H ?_); refine ⟨rfl, ?_⟩; refine ⟨_, z_look rfl, ?_⟩; (clear H; intro gE w1 H); go_frame) | ((with_reducible refine Hp.allo (ty := 123) H ?_); refine ⟨rfl, ?_⟩; refine ⟨_, z_look rfl, ?_⟩; (clear H; intro gp w1 H); go_frame) | ((with_reducible refine Hp.sta H ?_); refine ⟨rfl, ?_⟩; refine ⟨_, s_look rfl, ?_⟩; refine ⟨_, rfl, _, rfl, rfl, ?_⟩; ((repeat ((fail_if_success refine ⟨_, _, _, .z, ?_⟩); refine hs ?_)); refine ⟨_, _, _, .z, ?_⟩); refine ⟨rfl, rfl, ?_⟩; (clear H; intro w1 H; simp only [List.set] at H); go_frame) | ((with_reducible refine Hp.bdl (t := 123) (parts := [_, _]) H ?_); refine ⟨rfl, _, b_pen _ _ _ _, ?_⟩; go_frame)); ((with_reducible refine (pget_v A c l ⟨a, false⟩ _ _ _ HK.out HR1.out _ _ _ _ hr hc hm H).mono ?_); rintro _ w1 ⟨rfl, H1⟩; clear H; have H := H1; clear H1); go_wp2_with (first | ((with_reducible refine Hp.allo (ty := 27) H ?_); refine ⟨rfl, ?_⟩; refine ⟨_, z_look rfl, ?_⟩; (clear H; intro gE w1 H); go_frame) | ((with_reducible refine Hp.ld H ?_); refine ⟨rfl, ?_⟩; refine ⟨c_look rfl, ?_⟩; refine ⟨_, _, rfl, ?_⟩; ((repeat ((fail_if_success refine ⟨_, _, _, .z, ?_⟩); refine hs ?_)); refine ⟨_, _, _, .z, ?_⟩); refine ⟨_, rfl, ?_⟩; go_frame) | ((with_reducible refine Hp.sta H ?_); refine ⟨rfl, ?_⟩; refine ⟨_, s_look rfl, ?_⟩; refine ⟨_, rfl, _, rfl, rfl, ?_⟩; ((repeat ((fail_if_success refine ⟨_, _, _, .z, ?_⟩); refine hs ?_)); refine ⟨_, _, _, .z, ?_⟩); refine ⟨rfl, rfl, ?_⟩; (clear H; intro w1 H; simp only [List.set] at H); go_frame) | ((with_reducible refine Hp.bdl (t := 27) (parts := [_]) H ?_); refine ⟨rfl, _, b_enk _, ?_⟩; go_frame)); replace H := H.rot2; ((with_reducible refine (pget_v A c l R1 _ _ _ HC.out HR2.out _ _ _ _ hr hc hm H).mono ?_); rintro _ w1 ⟨rfl, H1⟩; clear H; have H := H1; clear H1); go_wp2_with (first | ((with_reducible refine Hp.stv H ?_); refine ⟨rfl, ?_⟩; refine ⟨c_look rfl, ?_⟩; (first | refine ⟨.bool _, rfl, ?_⟩ | refine ⟨.int _ _, rfl, ?_⟩ | refine ⟨.string _, rfl, ?_⟩ | refine ⟨.slice _ _ _, rfl, ?_⟩ | refine ⟨.pointer _, rfl, ?_⟩); refine ⟨rfl, _, _, rfl, ?_⟩; ((repeat ((fail_if_success refine ⟨_, _, _, .z, ?_⟩); refine hs ?_)); refine ⟨_, _, _, .z, ?_⟩); refine ⟨⟨_, rfl⟩, ?_⟩; (clear H; intro w1 H; simp only [List.set] at H); go_frame)); ((with_reducible refine (pget_v A c l R2 _ _ _ HS.out HR3.out _ _ _ _ hr hc hm H).mono ?_); rintro _ w1 ⟨rfl, H1⟩; clear H; have H := H1; clear H1); go_wp2_with (first | ((with_reducible refine Hp.stv H ?_); refine ⟨rfl, ?_⟩; refine ⟨c_look rfl, ?_⟩; (first | refine ⟨.bool _, rfl, ?_⟩ | refine ⟨.int _ _, rfl, ?_⟩ | refine ⟨.string _, rfl, ?_⟩ | refine ⟨.slice _ _ _, rfl, ?_⟩ | refine ⟨.pointer _, rfl, ?_⟩); refine ⟨rfl, _, _, rfl, ?_⟩; ((repeat ((fail_if_success refine ⟨_, _, _, .z, ?_⟩); refine hs ?_)); refine ⟨_, _, _, .z, ?_⟩); refine ⟨⟨_, rfl⟩, ?_⟩; (clear H; intro w1 H; simp only [List.set] at H); go_frame)); ((with_reducible refine (pget_v A c l R3 _ _ _ HO.out HR4.out _ _ _ _ hr hc hm H).mono ?_); rintro _ w1 ⟨rfl, H1⟩; clear H; have H := H1; clear H1); go_wp2_with (first | ((with_reducible refine Hp.stv H ?_); refine ⟨rfl, ?_⟩; refine ⟨c_look rfl, ?_⟩; (first | refine ⟨.bool _, rfl, ?_⟩ | refine ⟨.int _ _, rfl, ?_⟩ | refine ⟨.string _, rfl, ?_⟩ | refine ⟨.slice _ _ _, rfl, ?_⟩ | refine ⟨.pointer _, rfl, ?_⟩); refine ⟨rfl, _, _, rfl, ?_⟩; ((repeat ((fail_if_success refine ⟨_, _, _, .z, ?_⟩); refine hs ?_)); refine ⟨_, _, _, .z, ?_⟩); refine ⟨⟨_, rfl⟩, ?_⟩; (clear H; intro w1 H; simp only [List.set] at H); go_frame)); (with_reducible refine (textsR_any A c l ⟨2, C, S, O, .empty, .empty, .empty⟩ R4 _ _ _ _ _ hr hc hm H).mono ?_); rintro _ w1 ⟨rfl, H1⟩; clear H; simp only [tV_empty, HR5.out, HR6.out, HR7.out, HT0.out, HT1.out, HT2.out] at H1; have H := H1; clear H1; go_wp2_with (first | ((with_reducible refine Hp.ld H ?_); refine ⟨rfl, ?_⟩; refine ⟨c_look rfl, ?_⟩; refine ⟨_, _, rfl, ?_⟩; ((repeat ((fail_if_success refine ⟨_, _, _, .z, ?_⟩); refine hs ?_)); refine ⟨_, _, _, .z, ?_⟩); refine ⟨_, rfl, ?_⟩; go_frame) | ((with_reducible refine Hp.sta H ?_); refine ⟨rfl, ?_⟩; refine ⟨_, s_look rfl, ?_⟩; refine ⟨_, rfl, _, rfl, rfl, ?_⟩; ((repeat ((fail_if_success refine ⟨_, _, _, .z, ?_⟩); refine hs ?_)); refine ⟨_, _, _, .z, ?_⟩); refine ⟨rfl, rfl, ?_⟩; (clear H; intro w1 H; simp only [List.set] at H); go_frame) | ((with_reducible refine Hp.bdl (t := 27) (parts := []) H ?_); refine ⟨rfl, _, b_en0d, ?_⟩; go_frame))
    exact bodyPost_ret (v := .tuple #[.agg (enC en0).toArray, .int .i64 0, .int .i64 90]) (results_ctt rfl rfl (H.var (by kernel_rfl) (t := 27) (cs := enC en0) (.s (.s .z)) s_Entry) rfl rfl) rfl (retER_no h0 h1 (by rw [HR.out]; rfl) H.below)
set_option maxHeartbeats 2000000 in
theorem eread_out (A : Option Addr) (c : Nat) (l : List UInt8) (a : Int) (w : World) (hc : l.length ≤ c) (hm : c ≤ maxLen) (h : a < 0 ∨ (l.length : Int) < a) :
    Calls Tryd.prog 86 #[.slice A l.length c, .int .i64 a] w (RetER l a w) := by
  have H := Hp.nil w
  have e1 : erE l a = 2 := by unfold erE; rw [if_pos h]
  have e2 : erN l a = 0 := by unfold erN; rw [e1]; rfl
  have e3 : erV l a = en0 := by unfold erV; rw [e1]; rfl
  have HE : Hid (∀ w', Below w.heap.size w w' → RetER l a w (.returned (.tuple #[.agg (enC en0).toArray, .int .i64 0, .int .i64 2])) w') := Lib.hid (fun w' hb => by unfold RetER; rw [e1, e2, e3]; exact ⟨rfl, hb⟩)
  clear e1 e2 e3
  by_cases h0 : a < 0
  · go_enter Tryd.func86, Tryd.ntmps86
    go_wp2_with (first | ((with_reducible refine Hp.allo (ty := 27) H ?_); refine ⟨rfl, ?_⟩; refine ⟨_, z_look rfl, ?_⟩; (clear H; intro gE w1 H); go_frame) | ((with_reducible refine Hp.sta H ?_); refine ⟨rfl, ?_⟩; refine ⟨_, s_look rfl, ?_⟩; refine ⟨_, rfl, _, rfl, rfl, ?_⟩; ((repeat ((fail_if_success refine ⟨_, _, _, .z, ?_⟩); refine hs ?_)); refine ⟨_, _, _, .z, ?_⟩); refine ⟨rfl, rfl, ?_⟩; (clear H; intro w1 H; simp only [List.set] at H); go_frame) | ((with_reducible refine Hp.bdl (t := 27) (parts := []) H ?_); refine ⟨rfl, _, b_en0d, ?_⟩; go_frame))
    exact bodyPost_ret (v := .tuple #[.agg (enC en0).toArray, .int .i64 0, .int .i64 2]) (results_ctt rfl rfl (H.var (by kernel_rfl) (t := 27) (cs := enC en0) .z s_Entry) rfl rfl) rfl (HE.out _ H.below)
  · have d0 : decide (a < 0) = false := decide_eq_false h0
    have d1 : (l.length : Int) < a := h.resolve_left h0
    clear h h0
    go_enter Tryd.func86, Tryd.ntmps86
    go_wp2_with (first | ((with_reducible refine Hp.allo (ty := 27) H ?_); refine ⟨rfl, ?_⟩; refine ⟨_, z_look rfl, ?_⟩; (clear H; intro gE w1 H); go_frame) | ((with_reducible refine Hp.sta H ?_); refine ⟨rfl, ?_⟩; refine ⟨_, s_look rfl, ?_⟩; refine ⟨_, rfl, _, rfl, rfl, ?_⟩; ((repeat ((fail_if_success refine ⟨_, _, _, .z, ?_⟩); refine hs ?_)); refine ⟨_, _, _, .z, ?_⟩); refine ⟨rfl, rfl, ?_⟩; (clear H; intro w1 H; simp only [List.set] at H); go_frame) | ((with_reducible refine Hp.bdl (t := 27) (parts := []) H ?_); refine ⟨rfl, _, b_en0d, ?_⟩; go_frame))
    exact bodyPost_ret (v := .tuple #[.agg (enC en0).toArray, .int .i64 0, .int .i64 2]) (results_ctt rfl rfl (H.var (by kernel_rfl) (t := 27) (cs := enC en0) .z s_Entry) rfl rfl) rfl (HE.out _ H.below)
theorem eread_any (A : Option Addr) (c : Nat) (l : List UInt8) (a : Int) (w : World) (hr : Rd w A l) (hc : l.length ≤ c) (hm : c ≤ maxLen) :
    Calls Tryd.prog 86 #[.slice A l.length c, .int .i64 a] w (RetER l a w) := by
  by_cases h : a < 0 ∨ (l.length : Int) < a
  · exact eread_out A c l a w hc hm h
  · by_cases hk : rdK l a = 2
    · exact eread_two A c l a w hr hc hm (by omega) (by omega) hk
    · exact eread_one A c l a w hr hc hm (by omega) (by omega) hk
end Go.Proofs.YtajgikjmoeemnaaDoor
