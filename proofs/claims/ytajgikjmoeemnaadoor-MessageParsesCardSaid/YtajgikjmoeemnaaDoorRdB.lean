/-
  THE WALK OF sextonref20's reading: entry.
-/
import Derived.Test.YtajgikjmoeemnaaDoorRdA
import Derived.Test.YtajgikjmoeemnaaDoorEntV
import Derived.Test.YtajgikjmoeemnaaDoorPaA
namespace Go.Proofs.YtajgikjmoeemnaaDoor
set_option maxRecDepth 100000
open Go.RowKit
set_option linter.unusedVariables false
set_option linter.unusedSimpArgs false
theorem qread_e {l : List UInt8} {a E N : Int} {V : En} (he : erE l a = E) (hv : erV l a = V) (hp : erN l a = N) (A : Option Addr) (c : Nat) (w : World) (hr : Rd w A l) (hc : l.length ≤ c) (hm : c ≤ maxLen) :
    Calls Tryd.prog 88 #[.slice A l.length c, .int .i64 a] w (RetV w (.tuple #[.agg (enC V).toArray, .int .i64 N, .int .i64 E])) := by
  subst he hv hp
  exact rread_e A c l a w hr hc hm
theorem cf_qread (args : Array Value) (w : World) : (callFunc 88 args).run Tryd.prog w = .ok (.enter 88 args) w := by kernel_rfl
def eqV (l : List UInt8) (s : Qs) : En := if s.b then en0 else erV l s.a
def eqP (l : List UInt8) (s : Qs) : Qs := if s.b then s else if erE l s.a = 0 then ⟨(erN l s.a).toNat, false⟩ else ⟨s.a, true⟩
theorem erN_nat {l : List UInt8} {a : Int} (h : erE l a = 0) : erN l a = ((erN l a).toNat : Int) ∧ (erN l a).toNat ≤ l.length := by
  obtain ⟨_, A, N, _, hN, _, hle, _⟩ := er_get h
  omega
theorem eqP_le {l : List UInt8} {s : Qs} (h : s.a ≤ l.length) : (eqP l s).a ≤ l.length := by
  unfold eqP
  split
  · exact h
  · split
    · rename_i h1; exact (erN_nat h1).2
    · exact h
set_option maxHeartbeats 2000000 in
theorem qent_any (A : Option Addr) (c : Nat) (l : List UInt8) (s : Qs) (g : Nat) (w0 w : World) (L : List Item) (hr : Rd w0 A l) (hc : l.length ≤ c) (hm : c ≤ maxLen) (H : Hp w0 w (rrI g A l.length c s :: L)) :
    Calls Tryd.prog 74 #[.pointer (some ⟨g, 0, none⟩)] w (RetH w0 (rrI g A l.length c (eqP l s) :: L) (.agg (enC (eqV l s)).toArray)) := by
  obtain ⟨a, b⟩ := s
  cases b
  rotate_left
  · show Calls _ _ _ _ (RetH w0 (rrI g A l.length c ⟨a, true⟩ :: L) (.agg (enC en0).toArray))
    go_enter Tryd.func74, Tryd.ntmps74
    go_wp2_with (first | ((with_reducible refine Hp.allo (ty := 27) H ?_); refine ⟨rfl, ?_⟩; refine ⟨_, z_look rfl, ?_⟩; (clear H; intro ge w1 H); go_frame) | ((with_reducible refine Hp.ld H ?_); refine ⟨rfl, ?_⟩; refine ⟨c_look rfl, ?_⟩; refine ⟨_, _, rfl, ?_⟩; (first | refine ⟨_, _, _, .z, ?_⟩ | refine ⟨_, _, _, .s .z, ?_⟩ | refine ⟨_, _, _, .s (.s .z), ?_⟩); refine ⟨_, rfl, ?_⟩; go_frame) | ((with_reducible refine Hp.sta H ?_); refine ⟨rfl, ?_⟩; refine ⟨_, s_look rfl, ?_⟩; refine ⟨_, rfl, _, rfl, rfl, ?_⟩; (first | refine ⟨_, _, _, .z, ?_⟩ | refine ⟨_, _, _, .s .z, ?_⟩ | refine ⟨_, _, _, .s (.s .z), ?_⟩); refine ⟨rfl, rfl, ?_⟩; (clear H; intro w1 H; simp only [List.set] at H); go_frame) | ((with_reducible refine Hp.bdl H ?_); refine ⟨rfl, _, b_en0d, ?_⟩; go_frame))
    (exact bodyPost_ret (results_c rfl rfl (H.var (by kernel_rfl) (t := 27) (cs := enC en0) .z s_Entry)) rfl ⟨rfl, H.tail⟩)
  show Calls _ _ _ _ (RetH w0 (rrI g A l.length c (if erE l a = 0 then ⟨(erN l a).toNat, false⟩ else ⟨a, true⟩) :: L) (.agg (enC (erV l a)).toArray))
  have h0 : erE l a ≠ 0 → erV l a = en0 := fun h => by unfold erV; rw [if_neg h]
  have h1 : erE l a = 0 → erN l a = ((erN l a).toNat : Int) := fun h => (erN_nat h).1
  obtain ⟨E, hE⟩ : ∃ E, erE l a = E := ⟨_, rfl⟩
  obtain ⟨V, hV⟩ : ∃ E, erV l a = E := ⟨_, rfl⟩
  obtain ⟨N, hN⟩ : ∃ E, erN l a = E := ⟨_, rfl⟩
  rw [hE, hV] at h0
  rw [hE, hN] at h1
  have HE := Lib.hid hE
  have HV := Lib.hid hV
  have HN := Lib.hid hN
  rw [hE, hV, hN]
  clear hE hV hN
  by_cases h : E = 0
  · rw [if_pos h]
    subst h
    obtain ⟨M, hM⟩ : ∃ M, N.toNat = M := ⟨_, rfl⟩
    have hNM := h1 rfl
    rw [hM] at hNM ⊢
    subst hNM
    clear h0 h1 hM
    go_enter Tryd.func74, Tryd.ntmps74; go_wp2_with (first | ((with_reducible refine Hp.allo (ty := 27) H ?_); refine ⟨rfl, ?_⟩; refine ⟨_, z_look rfl, ?_⟩; (clear H; intro ge w1 H); go_frame) | ((with_reducible refine Hp.ld H ?_); refine ⟨rfl, ?_⟩; refine ⟨c_look rfl, ?_⟩; refine ⟨_, _, rfl, ?_⟩; (first | refine ⟨_, _, _, .z, ?_⟩ | refine ⟨_, _, _, .s .z, ?_⟩ | refine ⟨_, _, _, .s (.s .z), ?_⟩); refine ⟨_, rfl, ?_⟩; go_frame)); replace H := H.rot2; refine hw_start [] (_ :: _ :: L) H (by kernel_rfl) (fun w1 H => ?_); have hS : HpW _ _ w1 := ⟨[], H⟩; simp only [List.nil_append] at H; (refine hw_take hS 0 (by decide +kernel) (by decide +kernel) (by decide +kernel) ⟨_, rfl, rfl, ?_, ?_, fun _ _ _ h => h, ?_⟩; rotate_left; (intro w _; go_simp; try with_reducible rfl); go_frame); (refine hw_take hS 1 (by decide +kernel) (by decide +kernel) (by decide +kernel) ⟨_, rfl, rfl, ?_, ?_, fun _ _ _ h => h, ?_⟩; rotate_left; (intro w _; go_simp; try with_reducible rfl); go_frame); (refine hw_take hS 2 (by decide +kernel) (by decide +kernel) (by decide +kernel) ⟨_, rfl, rfl, ?_, ?_, fun _ _ _ h => h, ?_⟩; rotate_left; (intro w _; go_simp; try with_reducible rfl); go_frame); (refine hw_take hS 3 (by decide +kernel) (by decide +kernel) (by decide +kernel) ⟨_, rfl, rfl, _, fun w h => ex_load rfl rfl (hw_ld (by kernel_rfl) (.z) rfl w h), fun _ _ _ h => h, ?_⟩; go_frame); (refine hw_take hS 4 (by decide +kernel) (by decide +kernel) (by decide +kernel) ⟨_, rfl, rfl, ?_, ?_, fun _ _ _ h => h, ?_⟩; rotate_left; (intro w _; go_simp; try with_reducible rfl); go_frame); (refine hw_take hS 5 (by decide +kernel) (by decide +kernel) (by decide +kernel) ⟨_, rfl, rfl, ?_, ?_, fun _ _ _ h => h, ?_⟩; rotate_left; (intro w _; go_simp; try with_reducible rfl); go_frame); (refine hw_take hS 6 (by decide +kernel) (by decide +kernel) (by decide +kernel) ⟨_, rfl, rfl, ?_, ?_, fun _ _ _ h => h, ?_⟩; rotate_left; (intro w _; go_simp; try with_reducible rfl); go_frame); (refine hw_take hS 7 (by decide +kernel) (by decide +kernel) (by decide +kernel) ⟨_, rfl, rfl, _, fun w h => ex_load rfl rfl (hw_ld (by kernel_rfl) (.z) rfl w h), fun _ _ _ h => h, ?_⟩; go_frame); clear hS
    (refine hw_two 8 13 (by decide +kernel) ⟨_, rfl, rfl, fun K hK => ?_⟩ ⟨_, rfl, rfl, fun K hK => ?_⟩)
    · (refine hw_callk (vs := [_, _]) (qread_e HE.out HV.out HN.out A c _ (hr.below H.below) hc hm) cf_qread rfl rfl rfl ?_; rintro e w' ⟨rfl, hb⟩; replace H := H.call hb; clear hb; refine ⟨_, rfl, ?_⟩; refine hK _ _ ⟨[], H⟩ ?_; clear hK K; go_frame; have hS : HpW _ _ _ := ⟨[], H⟩)
      (refine hw_take hS 9 (by decide +kernel) (by decide +kernel) (by decide +kernel) ⟨_, rfl, rfl, ?_, ?_, fun _ _ _ h => h, ?_⟩; rotate_left; (intro w _; go_simp; try with_reducible rfl); go_frame); (refine hw_take hS 10 (by decide +kernel) (by decide +kernel) (by decide +kernel) ⟨_, rfl, rfl, ?_, ?_, fun _ _ _ h => h, ?_⟩; rotate_left; (intro w _; go_simp; try with_reducible rfl); go_frame); (refine hw_take hS 11 (by decide +kernel) (by decide +kernel) (by decide +kernel) ⟨_, rfl, rfl, ?_, ?_, fun _ _ _ h => h, ?_⟩; rotate_left; (intro w _; go_simp; try with_reducible rfl); go_frame); (refine hw_take hS 12 (by decide +kernel) (by decide +kernel) (by decide +kernel) ⟨_, rfl, rfl, ?_, ?_, fun _ _ _ h => h, ?_⟩; rotate_left; (intro w _; go_simp; try with_reducible rfl); go_frame)
      clear hS
      (refine hw_one 13 (by decide +kernel) ⟨_, rfl, rfl, fun K hK => ?_⟩)
      (refine hw_alloc rfl z_Entry H (fun g3 w1 H => ?_); refine hK _ _ ⟨[_], H⟩ ?_; clear hK K; go_frame; have hS : HpW _ _ _ := ⟨[_], H⟩)
      clear hS
      (refine hw_one 14 (by decide +kernel) ⟨_, rfl, rfl, fun KQ hKQ => ?_⟩; refine hw_sta (vs := enC V) rfl rfl rfl H s_Entry .z rfl rfl rfl (fun w1 H => hKQ _ _ ⟨[_], H⟩ ?_); clear hKQ KQ; go_frame; simp only [List.set_cons_zero] at H; have hS : HpW _ _ w1 := ⟨[_], H⟩)
      ((refine hw_take hS 15 (by decide +kernel) (by decide +kernel) (by decide +kernel) ⟨_, rfl, rfl, ?_, ?_, fun _ _ _ h => h, ?_⟩; rotate_left; (intro w _; go_simp; try with_reducible rfl); go_frame); (refine hw_take hS 16 (by decide +kernel) (by decide +kernel) (by decide +kernel) ⟨_, rfl, rfl, ?_, ?_, fun _ _ _ h => h, ?_⟩; rotate_left; (intro w _; go_simp; try with_reducible rfl); go_frame); refine wpAnyH_done (by kernel_rfl) ?_ _; clear hS)
      go_wp2_with (first | ((with_reducible refine Hp.lda H ?_); refine ⟨rfl, by kernel_rfl, ?_⟩; refine ⟨_, s_look rfl, ?_⟩; refine ⟨_, rfl, ?_⟩; (first | refine ⟨_, _, _, .z, ?_⟩ | refine ⟨_, _, _, .s .z, ?_⟩ | refine ⟨_, _, _, .s (.s .z), ?_⟩); refine ⟨rfl, ?_⟩; go_frame) | ((with_reducible refine Hp.stv H ?_); refine ⟨rfl, ?_⟩; refine ⟨c_look rfl, ?_⟩; (first | refine ⟨.bool _, rfl, ?_⟩ | refine ⟨.int _ _, rfl, ?_⟩ | refine ⟨.string _, rfl, ?_⟩ | refine ⟨.slice _ _ _, rfl, ?_⟩ | refine ⟨.pointer _, rfl, ?_⟩); refine ⟨rfl, _, _, rfl, ?_⟩; (first | refine ⟨_, _, _, .z, ?_⟩ | refine ⟨_, _, _, .s .z, ?_⟩ | refine ⟨_, _, _, .s (.s .z), ?_⟩); refine ⟨⟨_, rfl⟩, ?_⟩; (clear H; intro w1 H; simp only [List.set] at H); go_frame) | ((with_reducible refine Hp.sta H ?_); refine ⟨rfl, ?_⟩; refine ⟨_, s_look rfl, ?_⟩; refine ⟨_, rfl, _, rfl, rfl, ?_⟩; (first | refine ⟨_, _, _, .z, ?_⟩ | refine ⟨_, _, _, .s .z, ?_⟩ | refine ⟨_, _, _, .s (.s .z), ?_⟩); refine ⟨rfl, rfl, ?_⟩; (clear H; intro w1 H; simp only [List.set] at H); go_frame))
      (exact bodyPost_ret (results_c rfl rfl (H.var (by kernel_rfl) (t := 27) (cs := enC V) (.s (.s .z)) s_Entry)) rfl ⟨rfl, H.tail.rot2.tail⟩)
    · (refine hw_alloc rfl z_Entry H (fun g3 w1 H => ?_); refine hK _ _ ⟨[_], H⟩ ?_; clear hK K; go_frame; have hS : HpW _ _ _ := ⟨[_], H⟩)
      clear hS
      (refine hw_one 8 (by decide +kernel) ⟨_, rfl, rfl, fun K hK => ?_⟩)
      (refine hw_callk (vs := [_, _]) (qread_e HE.out HV.out HN.out A c _ (hr.below H.below) hc hm) cf_qread rfl rfl rfl ?_; rintro e w' ⟨rfl, hb⟩; replace H := H.call hb; clear hb; refine ⟨_, rfl, ?_⟩; refine hK _ _ ⟨[_], H⟩ ?_; clear hK K; go_frame; have hS : HpW _ _ _ := ⟨[_], H⟩)
      (refine hw_take hS 9 (by decide +kernel) (by decide +kernel) (by decide +kernel) ⟨_, rfl, rfl, ?_, ?_, fun _ _ _ h => h, ?_⟩; rotate_left; (intro w _; go_simp; try with_reducible rfl); go_frame); (refine hw_take hS 10 (by decide +kernel) (by decide +kernel) (by decide +kernel) ⟨_, rfl, rfl, ?_, ?_, fun _ _ _ h => h, ?_⟩; rotate_left; (intro w _; go_simp; try with_reducible rfl); go_frame); (refine hw_take hS 11 (by decide +kernel) (by decide +kernel) (by decide +kernel) ⟨_, rfl, rfl, ?_, ?_, fun _ _ _ h => h, ?_⟩; rotate_left; (intro w _; go_simp; try with_reducible rfl); go_frame); (refine hw_take hS 12 (by decide +kernel) (by decide +kernel) (by decide +kernel) ⟨_, rfl, rfl, ?_, ?_, fun _ _ _ h => h, ?_⟩; rotate_left; (intro w _; go_simp; try with_reducible rfl); go_frame)
      clear hS
      (refine hw_one 14 (by decide +kernel) ⟨_, rfl, rfl, fun KQ hKQ => ?_⟩; refine hw_sta (vs := enC V) rfl rfl rfl H s_Entry .z rfl rfl rfl (fun w1 H => hKQ _ _ ⟨[_], H⟩ ?_); clear hKQ KQ; go_frame; simp only [List.set_cons_zero] at H; have hS : HpW _ _ w1 := ⟨[_], H⟩)
      ((refine hw_take hS 15 (by decide +kernel) (by decide +kernel) (by decide +kernel) ⟨_, rfl, rfl, ?_, ?_, fun _ _ _ h => h, ?_⟩; rotate_left; (intro w _; go_simp; try with_reducible rfl); go_frame); (refine hw_take hS 16 (by decide +kernel) (by decide +kernel) (by decide +kernel) ⟨_, rfl, rfl, ?_, ?_, fun _ _ _ h => h, ?_⟩; rotate_left; (intro w _; go_simp; try with_reducible rfl); go_frame); refine wpAnyH_done (by kernel_rfl) ?_ _; clear hS)
      go_wp2_with (first | ((with_reducible refine Hp.lda H ?_); refine ⟨rfl, by kernel_rfl, ?_⟩; refine ⟨_, s_look rfl, ?_⟩; refine ⟨_, rfl, ?_⟩; (first | refine ⟨_, _, _, .z, ?_⟩ | refine ⟨_, _, _, .s .z, ?_⟩ | refine ⟨_, _, _, .s (.s .z), ?_⟩); refine ⟨rfl, ?_⟩; go_frame) | ((with_reducible refine Hp.stv H ?_); refine ⟨rfl, ?_⟩; refine ⟨c_look rfl, ?_⟩; (first | refine ⟨.bool _, rfl, ?_⟩ | refine ⟨.int _ _, rfl, ?_⟩ | refine ⟨.string _, rfl, ?_⟩ | refine ⟨.slice _ _ _, rfl, ?_⟩ | refine ⟨.pointer _, rfl, ?_⟩); refine ⟨rfl, _, _, rfl, ?_⟩; (first | refine ⟨_, _, _, .z, ?_⟩ | refine ⟨_, _, _, .s .z, ?_⟩ | refine ⟨_, _, _, .s (.s .z), ?_⟩); refine ⟨⟨_, rfl⟩, ?_⟩; (clear H; intro w1 H; simp only [List.set] at H); go_frame) | ((with_reducible refine Hp.sta H ?_); refine ⟨rfl, ?_⟩; refine ⟨_, s_look rfl, ?_⟩; refine ⟨_, rfl, _, rfl, rfl, ?_⟩; (first | refine ⟨_, _, _, .z, ?_⟩ | refine ⟨_, _, _, .s .z, ?_⟩ | refine ⟨_, _, _, .s (.s .z), ?_⟩); refine ⟨rfl, rfl, ?_⟩; (clear H; intro w1 H; simp only [List.set] at H); go_frame))
      (exact bodyPost_ret (results_c rfl rfl (H.var (by kernel_rfl) (t := 27) (cs := enC V) (.s (.s .z)) s_Entry)) rfl ⟨rfl, H.tail.rot2.tail⟩)
  · rw [if_neg h, h0 h]
    have hN0 := h0 h
    subst hN0
    have hne : (E != 0) = true := by simp [h]
    clear h0 h h1
    go_enter Tryd.func74, Tryd.ntmps74; go_wp2_with (first | ((with_reducible refine Hp.allo (ty := 27) H ?_); refine ⟨rfl, ?_⟩; refine ⟨_, z_look rfl, ?_⟩; (clear H; intro ge w1 H); go_frame) | ((with_reducible refine Hp.ld H ?_); refine ⟨rfl, ?_⟩; refine ⟨c_look rfl, ?_⟩; refine ⟨_, _, rfl, ?_⟩; (first | refine ⟨_, _, _, .z, ?_⟩ | refine ⟨_, _, _, .s .z, ?_⟩ | refine ⟨_, _, _, .s (.s .z), ?_⟩); refine ⟨_, rfl, ?_⟩; go_frame)); replace H := H.rot2; refine hw_start [] (_ :: _ :: L) H (by kernel_rfl) (fun w1 H => ?_); have hS : HpW _ _ w1 := ⟨[], H⟩; simp only [List.nil_append] at H; (refine hw_take hS 0 (by decide +kernel) (by decide +kernel) (by decide +kernel) ⟨_, rfl, rfl, ?_, ?_, fun _ _ _ h => h, ?_⟩; rotate_left; (intro w _; go_simp; try with_reducible rfl); go_frame); (refine hw_take hS 1 (by decide +kernel) (by decide +kernel) (by decide +kernel) ⟨_, rfl, rfl, ?_, ?_, fun _ _ _ h => h, ?_⟩; rotate_left; (intro w _; go_simp; try with_reducible rfl); go_frame); (refine hw_take hS 2 (by decide +kernel) (by decide +kernel) (by decide +kernel) ⟨_, rfl, rfl, ?_, ?_, fun _ _ _ h => h, ?_⟩; rotate_left; (intro w _; go_simp; try with_reducible rfl); go_frame); (refine hw_take hS 3 (by decide +kernel) (by decide +kernel) (by decide +kernel) ⟨_, rfl, rfl, _, fun w h => ex_load rfl rfl (hw_ld (by kernel_rfl) (.z) rfl w h), fun _ _ _ h => h, ?_⟩; go_frame); (refine hw_take hS 4 (by decide +kernel) (by decide +kernel) (by decide +kernel) ⟨_, rfl, rfl, ?_, ?_, fun _ _ _ h => h, ?_⟩; rotate_left; (intro w _; go_simp; try with_reducible rfl); go_frame); (refine hw_take hS 5 (by decide +kernel) (by decide +kernel) (by decide +kernel) ⟨_, rfl, rfl, ?_, ?_, fun _ _ _ h => h, ?_⟩; rotate_left; (intro w _; go_simp; try with_reducible rfl); go_frame); (refine hw_take hS 6 (by decide +kernel) (by decide +kernel) (by decide +kernel) ⟨_, rfl, rfl, ?_, ?_, fun _ _ _ h => h, ?_⟩; rotate_left; (intro w _; go_simp; try with_reducible rfl); go_frame); (refine hw_take hS 7 (by decide +kernel) (by decide +kernel) (by decide +kernel) ⟨_, rfl, rfl, _, fun w h => ex_load rfl rfl (hw_ld (by kernel_rfl) (.z) rfl w h), fun _ _ _ h => h, ?_⟩; go_frame); clear hS
    (refine hw_two 8 13 (by decide +kernel) ⟨_, rfl, rfl, fun K hK => ?_⟩ ⟨_, rfl, rfl, fun K hK => ?_⟩)
    · (refine hw_callk (vs := [_, _]) (qread_e HE.out HV.out HN.out A c _ (hr.below H.below) hc hm) cf_qread rfl rfl rfl ?_; rintro e w' ⟨rfl, hb⟩; replace H := H.call hb; clear hb; refine ⟨_, rfl, ?_⟩; refine hK _ _ ⟨[], H⟩ ?_; clear hK K; go_frame; have hS : HpW _ _ _ := ⟨[], H⟩)
      (refine hw_take hS 9 (by decide +kernel) (by decide +kernel) (by decide +kernel) ⟨_, rfl, rfl, ?_, ?_, fun _ _ _ h => h, ?_⟩; rotate_left; (intro w _; go_simp; try with_reducible rfl); go_frame); (refine hw_take hS 10 (by decide +kernel) (by decide +kernel) (by decide +kernel) ⟨_, rfl, rfl, ?_, ?_, fun _ _ _ h => h, ?_⟩; rotate_left; (intro w _; go_simp; try with_reducible rfl); go_frame); (refine hw_take hS 11 (by decide +kernel) (by decide +kernel) (by decide +kernel) ⟨_, rfl, rfl, ?_, ?_, fun _ _ _ h => h, ?_⟩; rotate_left; (intro w _; go_simp; try with_reducible rfl); go_frame); (refine hw_take hS 12 (by decide +kernel) (by decide +kernel) (by decide +kernel) ⟨_, rfl, rfl, ?_, ?_, fun _ _ _ h => h, ?_⟩; rotate_left; (intro w _; go_simp; try with_reducible rfl); go_frame)
      clear hS
      (refine hw_one 13 (by decide +kernel) ⟨_, rfl, rfl, fun K hK => ?_⟩)
      (refine hw_alloc rfl z_Entry H (fun g3 w1 H => ?_); refine hK _ _ ⟨[_], H⟩ ?_; clear hK K; go_frame; have hS : HpW _ _ _ := ⟨[_], H⟩)
      clear hS
      (refine hw_one 14 (by decide +kernel) ⟨_, rfl, rfl, fun KQ hKQ => ?_⟩; refine hw_sta (vs := enC en0) rfl rfl rfl H s_Entry .z rfl rfl rfl (fun w1 H => hKQ _ _ ⟨[_], H⟩ ?_); clear hKQ KQ; go_frame; simp only [List.set_cons_zero] at H; have hS : HpW _ _ w1 := ⟨[_], H⟩)
      ((refine hw_take hS 15 (by decide +kernel) (by decide +kernel) (by decide +kernel) ⟨_, rfl, rfl, ?_, ?_, fun _ _ _ h => h, ?_⟩; rotate_left; (intro w _; go_simp; try with_reducible rfl); go_frame); (refine hw_take hS 16 (by decide +kernel) (by decide +kernel) (by decide +kernel) ⟨_, rfl, rfl, ?_, ?_, fun _ _ _ h => h, ?_⟩; rotate_left; (intro w _; go_simp; try with_reducible rfl); go_frame); refine wpAnyH_done (by kernel_rfl) ?_ _; clear hS)
      go_wp2_with (first | ((with_reducible refine Hp.stv H ?_); refine ⟨rfl, ?_⟩; refine ⟨c_look rfl, ?_⟩; (first | refine ⟨.bool _, rfl, ?_⟩ | refine ⟨.int _ _, rfl, ?_⟩ | refine ⟨.string _, rfl, ?_⟩ | refine ⟨.slice _ _ _, rfl, ?_⟩ | refine ⟨.pointer _, rfl, ?_⟩); refine ⟨rfl, _, _, rfl, ?_⟩; (first | refine ⟨_, _, _, .z, ?_⟩ | refine ⟨_, _, _, .s .z, ?_⟩ | refine ⟨_, _, _, .s (.s .z), ?_⟩); refine ⟨⟨_, rfl⟩, ?_⟩; (clear H; intro w1 H; simp only [List.set] at H); go_frame) | ((with_reducible refine Hp.sta H ?_); refine ⟨rfl, ?_⟩; refine ⟨_, s_look rfl, ?_⟩; refine ⟨_, rfl, _, rfl, rfl, ?_⟩; (first | refine ⟨_, _, _, .z, ?_⟩ | refine ⟨_, _, _, .s .z, ?_⟩ | refine ⟨_, _, _, .s (.s .z), ?_⟩); refine ⟨rfl, rfl, ?_⟩; (clear H; intro w1 H; simp only [List.set] at H); go_frame) | ((with_reducible refine Hp.bdl H ?_); refine ⟨rfl, _, b_en0d, ?_⟩; go_frame))
      (exact bodyPost_ret (results_c rfl rfl (H.var (by kernel_rfl) (t := 27) (cs := enC en0) (.s (.s .z)) s_Entry)) rfl ⟨rfl, H.tail.rot2.tail⟩)
    · (refine hw_alloc rfl z_Entry H (fun g3 w1 H => ?_); refine hK _ _ ⟨[_], H⟩ ?_; clear hK K; go_frame; have hS : HpW _ _ _ := ⟨[_], H⟩)
      clear hS
      (refine hw_one 8 (by decide +kernel) ⟨_, rfl, rfl, fun K hK => ?_⟩)
      (refine hw_callk (vs := [_, _]) (qread_e HE.out HV.out HN.out A c _ (hr.below H.below) hc hm) cf_qread rfl rfl rfl ?_; rintro e w' ⟨rfl, hb⟩; replace H := H.call hb; clear hb; refine ⟨_, rfl, ?_⟩; refine hK _ _ ⟨[_], H⟩ ?_; clear hK K; go_frame; have hS : HpW _ _ _ := ⟨[_], H⟩)
      (refine hw_take hS 9 (by decide +kernel) (by decide +kernel) (by decide +kernel) ⟨_, rfl, rfl, ?_, ?_, fun _ _ _ h => h, ?_⟩; rotate_left; (intro w _; go_simp; try with_reducible rfl); go_frame); (refine hw_take hS 10 (by decide +kernel) (by decide +kernel) (by decide +kernel) ⟨_, rfl, rfl, ?_, ?_, fun _ _ _ h => h, ?_⟩; rotate_left; (intro w _; go_simp; try with_reducible rfl); go_frame); (refine hw_take hS 11 (by decide +kernel) (by decide +kernel) (by decide +kernel) ⟨_, rfl, rfl, ?_, ?_, fun _ _ _ h => h, ?_⟩; rotate_left; (intro w _; go_simp; try with_reducible rfl); go_frame); (refine hw_take hS 12 (by decide +kernel) (by decide +kernel) (by decide +kernel) ⟨_, rfl, rfl, ?_, ?_, fun _ _ _ h => h, ?_⟩; rotate_left; (intro w _; go_simp; try with_reducible rfl); go_frame)
      clear hS
      (refine hw_one 14 (by decide +kernel) ⟨_, rfl, rfl, fun KQ hKQ => ?_⟩; refine hw_sta (vs := enC en0) rfl rfl rfl H s_Entry .z rfl rfl rfl (fun w1 H => hKQ _ _ ⟨[_], H⟩ ?_); clear hKQ KQ; go_frame; simp only [List.set_cons_zero] at H; have hS : HpW _ _ w1 := ⟨[_], H⟩)
      ((refine hw_take hS 15 (by decide +kernel) (by decide +kernel) (by decide +kernel) ⟨_, rfl, rfl, ?_, ?_, fun _ _ _ h => h, ?_⟩; rotate_left; (intro w _; go_simp; try with_reducible rfl); go_frame); (refine hw_take hS 16 (by decide +kernel) (by decide +kernel) (by decide +kernel) ⟨_, rfl, rfl, ?_, ?_, fun _ _ _ h => h, ?_⟩; rotate_left; (intro w _; go_simp; try with_reducible rfl); go_frame); refine wpAnyH_done (by kernel_rfl) ?_ _; clear hS)
      go_wp2_with (first | ((with_reducible refine Hp.stv H ?_); refine ⟨rfl, ?_⟩; refine ⟨c_look rfl, ?_⟩; (first | refine ⟨.bool _, rfl, ?_⟩ | refine ⟨.int _ _, rfl, ?_⟩ | refine ⟨.string _, rfl, ?_⟩ | refine ⟨.slice _ _ _, rfl, ?_⟩ | refine ⟨.pointer _, rfl, ?_⟩); refine ⟨rfl, _, _, rfl, ?_⟩; (first | refine ⟨_, _, _, .z, ?_⟩ | refine ⟨_, _, _, .s .z, ?_⟩ | refine ⟨_, _, _, .s (.s .z), ?_⟩); refine ⟨⟨_, rfl⟩, ?_⟩; (clear H; intro w1 H; simp only [List.set] at H); go_frame) | ((with_reducible refine Hp.sta H ?_); refine ⟨rfl, ?_⟩; refine ⟨_, s_look rfl, ?_⟩; refine ⟨_, rfl, _, rfl, rfl, ?_⟩; (first | refine ⟨_, _, _, .z, ?_⟩ | refine ⟨_, _, _, .s .z, ?_⟩ | refine ⟨_, _, _, .s (.s .z), ?_⟩); refine ⟨rfl, rfl, ?_⟩; (clear H; intro w1 H; simp only [List.set] at H); go_frame) | ((with_reducible refine Hp.bdl H ?_); refine ⟨rfl, _, b_en0d, ?_⟩; go_frame))
      (exact bodyPost_ret (results_c rfl rfl (H.var (by kernel_rfl) (t := 27) (cs := enC en0) (.s (.s .z)) s_Entry)) rfl ⟨rfl, H.tail.rot2.tail⟩)
end Go.Proofs.YtajgikjmoeemnaaDoor
