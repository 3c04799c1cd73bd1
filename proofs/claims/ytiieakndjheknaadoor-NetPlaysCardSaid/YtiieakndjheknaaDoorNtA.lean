/-
  THE WALKS OF slices.Clone at reports, net.own, New, none, pair, IsCut.
-/
import Derived.Test.YtiieakndjheknaaDoorNtP
import Derived.Test.YtiieakndjheknaaDoorClone
import Derived.Lib.MinMax
namespace Go.Proofs.YtiieakndjheknaaDoor
set_option maxRecDepth 100000
open Go.RowKit
set_option linter.unusedVariables false
set_option linter.unusedSimpArgs false
def RetRw (w : World) (rs : List Rp) (e : Ending) (w' : World) : Prop := ∃ A c, e = .returned (.slice A rs.length c) ∧ Hp w w' [rwI A c rs]
theorem rp_i1 : (Tryd.prog.info? 71).map (fun i => i.size) = some 11 := by kernel_rfl
set_option maxHeartbeats 1000000 in
theorem rclone_any (A : Option Addr) (c : Nat) (rs : List Rp) (w : World) (hr : RRp w A rs) (hl : rs.length ≤ 1000000) : Calls Tryd.prog 53 #[.slice A rs.length c] w (RetRw w rs) := by
  have heq := fun (W : World) (a : Option Addr) (n c : Nat) => Lib.run_eql_slice_nil (P := Tryd.prog) W 31 71 a n c 0 0 Tryd.underlying31
  have H := Hp.nil w
  have HL := Lib.hid hl
  clear hl
  cases A with
  | none =>
    have hl : rs = [] := by
      cases rs with
      | nil => rfl
      | cons x xs => obtain ⟨b, o, e, _⟩ := hr (by simp); cases e
    subst hl
    go_enter Tryd.func53, Tryd.ntmps53
    go_wp2_with fail
    go_ret
    exact ⟨none, 0, rfl, H.nilRow _ _⟩
  | some a =>
    go_enter Tryd.func53, Tryd.ntmps53
    go_wp2_with (first | ((with_reducible refine Hp.bsl0 H rps_u rp_i1 ?_); refine ⟨rfl, ?_⟩; (clear H; intro gb w1 H); go_frame) | (at_builtin; (with_reducible refine Hp.wlAppRd (f := rpC) H rpC_len rpC_one rps_u rp_info rfl rfl rfl ?_); refine ⟨0, _, 0, 0, [], rfl, rfl, _, _, _, rs, rfl, rfl, (hr.below H.below).rdR, Nat.zero_le _, HL.out, ?_⟩; (clear H; intro A1 c1 w1 H); simp only [List.set_cons_zero, List.nil_append, Nat.zero_add] at H))
    go_ret
    exact ⟨A1, c1, rfl, H⟩
theorem rclone_n {A : Option Addr} {c n : Nat} {rs : List Rp} {w : World} (hr : RRp w A rs) (hl : rs.length ≤ 1000000) (hn : n = rs.length) : Calls Tryd.prog 53 #[.slice A n c] w (RetRw w rs) := by
  subst hn
  exact rclone_any A c rs w hr hl
theorem cf_rclone (args : Array Value) (w : World) : (callFunc 53 args).run Tryd.prog w = .ok (.enter 53 args) w := by kernel_rfl
theorem cf_bclone (args : Array Value) (w : World) : (callFunc 54 args).run Tryd.prog w = .ok (.enter 54 args) w := by kernel_rfl
set_option maxHeartbeats 4000000 in
theorem nown_any (m : Mg) (rs : List Rp) (l : List UInt8) (w : World) (hR : MgR w m rs l) (hrs : rs.length ≤ 1000000) (hl : l.length ≤ 1000000) :
    Calls Tryd.prog 41 #[.agg (mgC m).toArray] w (RetCp w m rs l) := by
  have HRS := Lib.hid hrs
  have HLL : Hid (l.length ≤ 140737488355328) := Lib.hid (by omega)
  have HN1 : Hid (m.rn = rs.length) := Lib.hid hR.n1
  have HN2 : Hid (m.yn = l.length) := Lib.hid hR.n2
  clear hrs hl
  have H := Hp.nil w
  go_enter Tryd.func41, Tryd.ntmps41
  go_wp2_with (first | ((with_reducible refine Hp.box H ?_); (first | refine ⟨rfl, mgC m, rfl, ?_⟩); (clear H; intro g1 w1 H); go_frame) | ((with_reducible refine Hp.allo (ty := 34) H ?_); refine ⟨rfl, ?_⟩; refine ⟨_, z_look rfl, ?_⟩; (clear H; intro g2 w1 H); go_frame) | ((with_reducible refine Hp.ld H ?_); refine ⟨rfl, ?_⟩; refine ⟨c_look rfl, ?_⟩; refine ⟨_, _, rfl, ?_⟩; (first | refine ⟨_, _, _, .z, ?_⟩ | refine ⟨_, _, _, .s .z, ?_⟩ | refine ⟨_, _, _, .s (.s .z), ?_⟩ | refine ⟨_, _, _, .s (.s (.s .z)), ?_⟩); refine ⟨_, rfl, ?_⟩; go_frame) | ((with_reducible refine Hp.lda H ?_); refine ⟨rfl, by kernel_rfl, ?_⟩; refine ⟨_, s_look rfl, ?_⟩; refine ⟨_, rfl, ?_⟩; (first | refine ⟨_, _, _, .z, ?_⟩ | refine ⟨_, _, _, .s .z, ?_⟩ | refine ⟨_, _, _, .s (.s .z), ?_⟩ | refine ⟨_, _, _, .s (.s (.s .z)), ?_⟩); refine ⟨rfl, ?_⟩; go_frame) | ((with_reducible refine Hp.lds H ?_); refine ⟨rfl, by kernel_rfl, ?_⟩; refine ⟨_, s_look rfl, ?_⟩; refine ⟨_, _, rfl, ?_⟩; (first | refine ⟨_, _, _, .z, ?_⟩ | refine ⟨_, _, _, .s .z, ?_⟩ | refine ⟨_, _, _, .s (.s .z), ?_⟩ | refine ⟨_, _, _, .s (.s (.s .z)), ?_⟩); (first | refine ⟨[_, _], rfl, rfl, ?_⟩ | refine ⟨[_, _, _, _], rfl, rfl, ?_⟩ | refine ⟨[_, _, _, _, _, _, _], rfl, rfl, ?_⟩ | refine ⟨[_, _, _], rfl, rfl, ?_⟩ | (fail)); go_frame) | ((with_reducible refine Hp.sto H ?_); refine ⟨rfl, ?_⟩; refine ⟨c_look rfl, ?_⟩; refine ⟨_, _, rfl, ?_⟩; (first | refine ⟨_, _, _, .z, ?_⟩ | refine ⟨_, _, _, .s .z, ?_⟩ | refine ⟨_, _, _, .s (.s .z), ?_⟩ | refine ⟨_, _, _, .s (.s (.s .z)), ?_⟩); refine ⟨⟨_, rfl⟩, rfl, ?_⟩; (clear H; intro w1 H; simp only [List.set] at H); go_frame) | ((with_reducible refine Hp.sta H ?_); refine ⟨rfl, ?_⟩; refine ⟨_, s_look rfl, ?_⟩; refine ⟨_, rfl, _, rfl, rfl, ?_⟩; (first | refine ⟨_, _, _, .z, ?_⟩ | refine ⟨_, _, _, .s .z, ?_⟩ | refine ⟨_, _, _, .s (.s .z), ?_⟩ | refine ⟨_, _, _, .s (.s (.s .z)), ?_⟩); refine ⟨rfl, rfl, ?_⟩; (clear H; intro w1 H; simp only [List.set] at H); go_frame) | ((with_reducible refine Hp.str H ?_); refine ⟨rfl, ?_⟩; refine ⟨_, s_look rfl, ?_⟩; refine ⟨_, _, rfl, _, rfl, rfl, ?_⟩; (first | refine ⟨_, _, _, .z, ?_⟩ | refine ⟨_, _, _, .s .z, ?_⟩ | refine ⟨_, _, _, .s (.s .z), ?_⟩ | refine ⟨_, _, _, .s (.s (.s .z)), ?_⟩); refine ⟨rfl, _, rfl, _, rfl, Nat.le_of_ble_eq_true rfl, ?_⟩; (clear H; intro w1 H; simp only [List.set] at H); go_frame) | (fail))
  refine hw_start [_, _] [] H (by kernel_rfl) (fun w1 H => ?_)
  simp only [List.cons_append, List.nil_append] at H
  have hS : HpW _ _ w1 := ⟨[_, _], H⟩
  (refine hw_take hS 0 (by decide +kernel) (by decide +kernel) (by decide +kernel) ⟨_, rfl, rfl, ?_, ?_, fun _ _ _ h => h, ?_⟩; rotate_left; (intro w _; go_simp; try with_reducible rfl); go_frame)
  (refine hw_take hS 3 (by decide +kernel) (by decide +kernel) (by decide +kernel) ⟨_, rfl, rfl, ?_, ?_, fun _ _ _ h => h, ?_⟩; rotate_left; (intro w _; go_simp; try with_reducible rfl); go_frame)
  clear hS
  (refine hw_two 1 4 (by decide +kernel) ⟨_, rfl, rfl, fun K hK => ?_⟩ ⟨_, rfl, rfl, fun K hK => ?_⟩)
  · (refine hw_value (v := .slice m.rA m.rn m.rc) (ex_load rfl rfl (run_loadAt_cell (oneT_c (by kernel_rfl)) (H.c 1 rfl 25 rfl))) ?_; refine hK _ _ ⟨[_, _], H⟩ ?_; clear hK K; go_frame; have hS : HpW _ _ _ := ⟨[_, _], H⟩)
    clear hS
    (refine hw_two 2 4 (by decide +kernel) ⟨_, rfl, rfl, fun K hK => ?_⟩ ⟨_, rfl, rfl, fun K hK => ?_⟩)
    · (refine hw_callk (vs := [.slice m.rA m.rn m.rc]) (rclone_n (hR.below H.below).rr HRS.out HN1.out) cf_rclone rfl rfl rfl (fun e w1 hp => ?_); obtain ⟨A1, c1, rfl, HQ⟩ := hp; replace H := HQ.onto H; clear HQ; simp only [List.cons_append, List.nil_append] at H; refine ⟨_, rfl, ?_⟩; refine hK _ _ ⟨[_, _, _], H⟩ ?_; clear hK K; go_frame; have hS : HpW _ _ _ := ⟨[_, _, _], H⟩)
      clear hS
      (refine hw_one 4 (by decide +kernel) ⟨_, rfl, rfl, fun K hK => ?_⟩)
      (refine hw_value (v := .slice m.yA m.yn m.yc) (ex_load rfl rfl (run_loadAt_cell (oneT_c (by kernel_rfl)) (H.c 2 rfl 26 rfl))) ?_; refine hK _ _ ⟨[_, _, _], H⟩ ?_; clear hK K; go_frame; have hS : HpW _ _ _ := ⟨[_, _, _], H⟩)
      ((refine hw_take hS 6 (by decide +kernel) (by decide +kernel) (by decide +kernel) ⟨_, rfl, rfl, ?_, ?_, fun _ _ _ h => h, ?_⟩; rotate_left; (intro w _; go_simp; try with_reducible rfl); go_frame); clear hS; (refine hw_one 5 (by decide +kernel) ⟨_, rfl, rfl, fun K hK => ?_⟩); (refine hw_callB (vs := [.slice m.yA m.yn m.yc]) (l := l) (clone_n m.yA m.yc l m.yn _ (hR.below H.below).yr HLL.out HN2.out) cf_bclone rfl rfl rfl H (fun A2 c2 w1 H => ?_); refine hK _ _ ⟨[_, _, _, _], H⟩ ?_; clear hK K; go_frame; have hS : HpW _ _ _ := ⟨[_, _, _, _], H⟩); clear hS; (refine hw_one 7 (by decide +kernel) ⟨_, rfl, rfl, fun K hK => ?_⟩); (refine hw_sto (v := .slice A1 rs.length c1) (by kernel_rfl) rfl rfl rfl H (.s (.s (.s .z))) (Nat.le_of_ble_eq_true rfl) rfl (fun w1 H => ?_); (try simp only [List.set_cons_succ, List.set_cons_zero] at H); refine hK _ _ ⟨[_, _, _, _], H⟩ ?_; clear hK K; go_frame; have hS : HpW _ _ _ := ⟨[_, _, _, _], H⟩); (refine hw_take hS 8 (by decide +kernel) (by decide +kernel) (by decide +kernel) ⟨_, rfl, rfl, ?_, ?_, fun _ _ _ h => h, ?_⟩; rotate_left; (intro w _; go_simp; try with_reducible rfl); go_frame); clear hS; (refine hw_one 9 (by decide +kernel) ⟨_, rfl, rfl, fun K hK => ?_⟩); (refine hw_sto (v := .slice A2 l.length c2) (by kernel_rfl) rfl rfl rfl H (.s (.s (.s .z))) (Nat.le_of_ble_eq_true rfl) rfl (fun w1 H => ?_); (try simp only [List.set_cons_succ, List.set_cons_zero] at H); refine hK _ _ ⟨[_, _, _, _], H⟩ ?_; clear hK K; go_frame; have hS : HpW _ _ _ := ⟨[_, _, _, _], H⟩); refine wpAnyH_done (by kernel_rfl) ?_ _; clear hS; replace H : Hp w _ (.bytes A2 c2 l :: rwI A1 c1 rs :: .blk g2 34 (mgC mg0) :: .blk g1 34 (mgC (cpM m rs l A1 c1 A2 c2)) :: []) := H)
      (go_wp2_with (first | ((with_reducible refine Hp.box H ?_); (first | refine ⟨rfl, mgC m, rfl, ?_⟩); (clear H; intro g1 w1 H); go_frame) | ((with_reducible refine Hp.allo (ty := 34) H ?_); refine ⟨rfl, ?_⟩; refine ⟨_, z_look rfl, ?_⟩; (clear H; intro g2 w1 H); go_frame) | ((with_reducible refine Hp.ld H ?_); refine ⟨rfl, ?_⟩; refine ⟨c_look rfl, ?_⟩; refine ⟨_, _, rfl, ?_⟩; (first | refine ⟨_, _, _, .z, ?_⟩ | refine ⟨_, _, _, .s .z, ?_⟩ | refine ⟨_, _, _, .s (.s .z), ?_⟩ | refine ⟨_, _, _, .s (.s (.s .z)), ?_⟩); refine ⟨_, rfl, ?_⟩; go_frame) | ((with_reducible refine Hp.lda H ?_); refine ⟨rfl, by kernel_rfl, ?_⟩; refine ⟨_, s_look rfl, ?_⟩; refine ⟨_, rfl, ?_⟩; (first | refine ⟨_, _, _, .z, ?_⟩ | refine ⟨_, _, _, .s .z, ?_⟩ | refine ⟨_, _, _, .s (.s .z), ?_⟩ | refine ⟨_, _, _, .s (.s (.s .z)), ?_⟩); refine ⟨rfl, ?_⟩; go_frame) | ((with_reducible refine Hp.lds H ?_); refine ⟨rfl, by kernel_rfl, ?_⟩; refine ⟨_, s_look rfl, ?_⟩; refine ⟨_, _, rfl, ?_⟩; (first | refine ⟨_, _, _, .z, ?_⟩ | refine ⟨_, _, _, .s .z, ?_⟩ | refine ⟨_, _, _, .s (.s .z), ?_⟩ | refine ⟨_, _, _, .s (.s (.s .z)), ?_⟩); (first | refine ⟨[_, _], rfl, rfl, ?_⟩ | refine ⟨[_, _, _, _], rfl, rfl, ?_⟩ | refine ⟨[_, _, _, _, _, _, _], rfl, rfl, ?_⟩ | refine ⟨[_, _, _], rfl, rfl, ?_⟩ | (fail)); go_frame) | ((with_reducible refine Hp.sto H ?_); refine ⟨rfl, ?_⟩; refine ⟨c_look rfl, ?_⟩; refine ⟨_, _, rfl, ?_⟩; (first | refine ⟨_, _, _, .z, ?_⟩ | refine ⟨_, _, _, .s .z, ?_⟩ | refine ⟨_, _, _, .s (.s .z), ?_⟩ | refine ⟨_, _, _, .s (.s (.s .z)), ?_⟩); refine ⟨⟨_, rfl⟩, rfl, ?_⟩; (clear H; intro w1 H; simp only [List.set] at H); go_frame) | ((with_reducible refine Hp.sta H ?_); refine ⟨rfl, ?_⟩; refine ⟨_, s_look rfl, ?_⟩; refine ⟨_, rfl, _, rfl, rfl, ?_⟩; (first | refine ⟨_, _, _, .z, ?_⟩ | refine ⟨_, _, _, .s .z, ?_⟩ | refine ⟨_, _, _, .s (.s .z), ?_⟩ | refine ⟨_, _, _, .s (.s (.s .z)), ?_⟩); refine ⟨rfl, rfl, ?_⟩; (clear H; intro w1 H; simp only [List.set] at H); go_frame) | ((with_reducible refine Hp.str H ?_); refine ⟨rfl, ?_⟩; refine ⟨_, s_look rfl, ?_⟩; refine ⟨_, _, rfl, _, rfl, rfl, ?_⟩; (first | refine ⟨_, _, _, .z, ?_⟩ | refine ⟨_, _, _, .s .z, ?_⟩ | refine ⟨_, _, _, .s (.s .z), ?_⟩ | refine ⟨_, _, _, .s (.s (.s .z)), ?_⟩); refine ⟨rfl, _, rfl, _, rfl, Nat.le_of_ble_eq_true rfl, ?_⟩; (clear H; intro w1 H; simp only [List.set] at H); go_frame) | (fail)); exact bodyPost_ret (results_c rfl rfl (H.var (by kernel_rfl) (t := 34) (cs := mgC (cpM m rs l A1 c1 A2 c2)) (.s (.s .z)) s_Msg)) rfl ⟨A1, c1, A2, c2, rfl, H.pick [0, 1] (by decide) rfl⟩)
    · (refine hw_value (v := .slice m.yA m.yn m.yc) (ex_load rfl rfl (run_loadAt_cell (oneT_c (by kernel_rfl)) (H.c 1 rfl 26 rfl))) ?_; refine hK _ _ ⟨[_, _], H⟩ ?_; clear hK K; go_frame; have hS : HpW _ _ _ := ⟨[_, _], H⟩)
      clear hS
      (refine hw_one 2 (by decide +kernel) ⟨_, rfl, rfl, fun K hK => ?_⟩)
      (refine hw_callk (vs := [.slice m.rA m.rn m.rc]) (rclone_n (hR.below H.below).rr HRS.out HN1.out) cf_rclone rfl rfl rfl (fun e w1 hp => ?_); obtain ⟨A1, c1, rfl, HQ⟩ := hp; replace H := HQ.onto H; clear HQ; simp only [List.cons_append, List.nil_append] at H; refine ⟨_, rfl, ?_⟩; refine hK _ _ ⟨[_, _, _], H⟩ ?_; clear hK K; go_frame; have hS : HpW _ _ _ := ⟨[_, _, _], H⟩)
      ((refine hw_take hS 6 (by decide +kernel) (by decide +kernel) (by decide +kernel) ⟨_, rfl, rfl, ?_, ?_, fun _ _ _ h => h, ?_⟩; rotate_left; (intro w _; go_simp; try with_reducible rfl); go_frame); clear hS; (refine hw_one 5 (by decide +kernel) ⟨_, rfl, rfl, fun K hK => ?_⟩); (refine hw_callB (vs := [.slice m.yA m.yn m.yc]) (l := l) (clone_n m.yA m.yc l m.yn _ (hR.below H.below).yr HLL.out HN2.out) cf_bclone rfl rfl rfl H (fun A2 c2 w1 H => ?_); refine hK _ _ ⟨[_, _, _, _], H⟩ ?_; clear hK K; go_frame; have hS : HpW _ _ _ := ⟨[_, _, _, _], H⟩); clear hS; (refine hw_one 7 (by decide +kernel) ⟨_, rfl, rfl, fun K hK => ?_⟩); (refine hw_sto (v := .slice A1 rs.length c1) (by kernel_rfl) rfl rfl rfl H (.s (.s (.s .z))) (Nat.le_of_ble_eq_true rfl) rfl (fun w1 H => ?_); (try simp only [List.set_cons_succ, List.set_cons_zero] at H); refine hK _ _ ⟨[_, _, _, _], H⟩ ?_; clear hK K; go_frame; have hS : HpW _ _ _ := ⟨[_, _, _, _], H⟩); (refine hw_take hS 8 (by decide +kernel) (by decide +kernel) (by decide +kernel) ⟨_, rfl, rfl, ?_, ?_, fun _ _ _ h => h, ?_⟩; rotate_left; (intro w _; go_simp; try with_reducible rfl); go_frame); clear hS; (refine hw_one 9 (by decide +kernel) ⟨_, rfl, rfl, fun K hK => ?_⟩); (refine hw_sto (v := .slice A2 l.length c2) (by kernel_rfl) rfl rfl rfl H (.s (.s (.s .z))) (Nat.le_of_ble_eq_true rfl) rfl (fun w1 H => ?_); (try simp only [List.set_cons_succ, List.set_cons_zero] at H); refine hK _ _ ⟨[_, _, _, _], H⟩ ?_; clear hK K; go_frame; have hS : HpW _ _ _ := ⟨[_, _, _, _], H⟩); refine wpAnyH_done (by kernel_rfl) ?_ _; clear hS; replace H : Hp w _ (.bytes A2 c2 l :: rwI A1 c1 rs :: .blk g2 34 (mgC mg0) :: .blk g1 34 (mgC (cpM m rs l A1 c1 A2 c2)) :: []) := H)
      (go_wp2_with (first | ((with_reducible refine Hp.box H ?_); (first | refine ⟨rfl, mgC m, rfl, ?_⟩); (clear H; intro g1 w1 H); go_frame) | ((with_reducible refine Hp.allo (ty := 34) H ?_); refine ⟨rfl, ?_⟩; refine ⟨_, z_look rfl, ?_⟩; (clear H; intro g2 w1 H); go_frame) | ((with_reducible refine Hp.ld H ?_); refine ⟨rfl, ?_⟩; refine ⟨c_look rfl, ?_⟩; refine ⟨_, _, rfl, ?_⟩; (first | refine ⟨_, _, _, .z, ?_⟩ | refine ⟨_, _, _, .s .z, ?_⟩ | refine ⟨_, _, _, .s (.s .z), ?_⟩ | refine ⟨_, _, _, .s (.s (.s .z)), ?_⟩); refine ⟨_, rfl, ?_⟩; go_frame) | ((with_reducible refine Hp.lda H ?_); refine ⟨rfl, by kernel_rfl, ?_⟩; refine ⟨_, s_look rfl, ?_⟩; refine ⟨_, rfl, ?_⟩; (first | refine ⟨_, _, _, .z, ?_⟩ | refine ⟨_, _, _, .s .z, ?_⟩ | refine ⟨_, _, _, .s (.s .z), ?_⟩ | refine ⟨_, _, _, .s (.s (.s .z)), ?_⟩); refine ⟨rfl, ?_⟩; go_frame) | ((with_reducible refine Hp.lds H ?_); refine ⟨rfl, by kernel_rfl, ?_⟩; refine ⟨_, s_look rfl, ?_⟩; refine ⟨_, _, rfl, ?_⟩; (first | refine ⟨_, _, _, .z, ?_⟩ | refine ⟨_, _, _, .s .z, ?_⟩ | refine ⟨_, _, _, .s (.s .z), ?_⟩ | refine ⟨_, _, _, .s (.s (.s .z)), ?_⟩); (first | refine ⟨[_, _], rfl, rfl, ?_⟩ | refine ⟨[_, _, _, _], rfl, rfl, ?_⟩ | refine ⟨[_, _, _, _, _, _, _], rfl, rfl, ?_⟩ | refine ⟨[_, _, _], rfl, rfl, ?_⟩ | (fail)); go_frame) | ((with_reducible refine Hp.sto H ?_); refine ⟨rfl, ?_⟩; refine ⟨c_look rfl, ?_⟩; refine ⟨_, _, rfl, ?_⟩; (first | refine ⟨_, _, _, .z, ?_⟩ | refine ⟨_, _, _, .s .z, ?_⟩ | refine ⟨_, _, _, .s (.s .z), ?_⟩ | refine ⟨_, _, _, .s (.s (.s .z)), ?_⟩); refine ⟨⟨_, rfl⟩, rfl, ?_⟩; (clear H; intro w1 H; simp only [List.set] at H); go_frame) | ((with_reducible refine Hp.sta H ?_); refine ⟨rfl, ?_⟩; refine ⟨_, s_look rfl, ?_⟩; refine ⟨_, rfl, _, rfl, rfl, ?_⟩; (first | refine ⟨_, _, _, .z, ?_⟩ | refine ⟨_, _, _, .s .z, ?_⟩ | refine ⟨_, _, _, .s (.s .z), ?_⟩ | refine ⟨_, _, _, .s (.s (.s .z)), ?_⟩); refine ⟨rfl, rfl, ?_⟩; (clear H; intro w1 H; simp only [List.set] at H); go_frame) | ((with_reducible refine Hp.str H ?_); refine ⟨rfl, ?_⟩; refine ⟨_, s_look rfl, ?_⟩; refine ⟨_, _, rfl, _, rfl, rfl, ?_⟩; (first | refine ⟨_, _, _, .z, ?_⟩ | refine ⟨_, _, _, .s .z, ?_⟩ | refine ⟨_, _, _, .s (.s .z), ?_⟩ | refine ⟨_, _, _, .s (.s (.s .z)), ?_⟩); refine ⟨rfl, _, rfl, _, rfl, Nat.le_of_ble_eq_true rfl, ?_⟩; (clear H; intro w1 H; simp only [List.set] at H); go_frame) | (fail)); exact bodyPost_ret (results_c rfl rfl (H.var (by kernel_rfl) (t := 34) (cs := mgC (cpM m rs l A1 c1 A2 c2)) (.s (.s .z)) s_Msg)) rfl ⟨A1, c1, A2, c2, rfl, H.pick [0, 1] (by decide) rfl⟩)
  · (refine hw_value (v := .slice m.yA m.yn m.yc) (ex_load rfl rfl (run_loadAt_cell (oneT_c (by kernel_rfl)) (H.c 1 rfl 26 rfl))) ?_; refine hK _ _ ⟨[_, _], H⟩ ?_; clear hK K; go_frame; have hS : HpW _ _ _ := ⟨[_, _], H⟩)
    clear hS
    (refine hw_one 1 (by decide +kernel) ⟨_, rfl, rfl, fun K hK => ?_⟩)
    (refine hw_value (v := .slice m.rA m.rn m.rc) (ex_load rfl rfl (run_loadAt_cell (oneT_c (by kernel_rfl)) (H.c 1 rfl 25 rfl))) ?_; refine hK _ _ ⟨[_, _], H⟩ ?_; clear hK K; go_frame; have hS : HpW _ _ _ := ⟨[_, _], H⟩)
    clear hS
    (refine hw_one 2 (by decide +kernel) ⟨_, rfl, rfl, fun K hK => ?_⟩)
    (refine hw_callk (vs := [.slice m.rA m.rn m.rc]) (rclone_n (hR.below H.below).rr HRS.out HN1.out) cf_rclone rfl rfl rfl (fun e w1 hp => ?_); obtain ⟨A1, c1, rfl, HQ⟩ := hp; replace H := HQ.onto H; clear HQ; simp only [List.cons_append, List.nil_append] at H; refine ⟨_, rfl, ?_⟩; refine hK _ _ ⟨[_, _, _], H⟩ ?_; clear hK K; go_frame; have hS : HpW _ _ _ := ⟨[_, _, _], H⟩)
    ((refine hw_take hS 6 (by decide +kernel) (by decide +kernel) (by decide +kernel) ⟨_, rfl, rfl, ?_, ?_, fun _ _ _ h => h, ?_⟩; rotate_left; (intro w _; go_simp; try with_reducible rfl); go_frame); clear hS; (refine hw_one 5 (by decide +kernel) ⟨_, rfl, rfl, fun K hK => ?_⟩); (refine hw_callB (vs := [.slice m.yA m.yn m.yc]) (l := l) (clone_n m.yA m.yc l m.yn _ (hR.below H.below).yr HLL.out HN2.out) cf_bclone rfl rfl rfl H (fun A2 c2 w1 H => ?_); refine hK _ _ ⟨[_, _, _, _], H⟩ ?_; clear hK K; go_frame; have hS : HpW _ _ _ := ⟨[_, _, _, _], H⟩); clear hS; (refine hw_one 7 (by decide +kernel) ⟨_, rfl, rfl, fun K hK => ?_⟩); (refine hw_sto (v := .slice A1 rs.length c1) (by kernel_rfl) rfl rfl rfl H (.s (.s (.s .z))) (Nat.le_of_ble_eq_true rfl) rfl (fun w1 H => ?_); (try simp only [List.set_cons_succ, List.set_cons_zero] at H); refine hK _ _ ⟨[_, _, _, _], H⟩ ?_; clear hK K; go_frame; have hS : HpW _ _ _ := ⟨[_, _, _, _], H⟩); (refine hw_take hS 8 (by decide +kernel) (by decide +kernel) (by decide +kernel) ⟨_, rfl, rfl, ?_, ?_, fun _ _ _ h => h, ?_⟩; rotate_left; (intro w _; go_simp; try with_reducible rfl); go_frame); clear hS; (refine hw_one 9 (by decide +kernel) ⟨_, rfl, rfl, fun K hK => ?_⟩); (refine hw_sto (v := .slice A2 l.length c2) (by kernel_rfl) rfl rfl rfl H (.s (.s (.s .z))) (Nat.le_of_ble_eq_true rfl) rfl (fun w1 H => ?_); (try simp only [List.set_cons_succ, List.set_cons_zero] at H); refine hK _ _ ⟨[_, _, _, _], H⟩ ?_; clear hK K; go_frame; have hS : HpW _ _ _ := ⟨[_, _, _, _], H⟩); refine wpAnyH_done (by kernel_rfl) ?_ _; clear hS; replace H : Hp w _ (.bytes A2 c2 l :: rwI A1 c1 rs :: .blk g2 34 (mgC mg0) :: .blk g1 34 (mgC (cpM m rs l A1 c1 A2 c2)) :: []) := H)
    (go_wp2_with (first | ((with_reducible refine Hp.box H ?_); (first | refine ⟨rfl, mgC m, rfl, ?_⟩); (clear H; intro g1 w1 H); go_frame) | ((with_reducible refine Hp.allo (ty := 34) H ?_); refine ⟨rfl, ?_⟩; refine ⟨_, z_look rfl, ?_⟩; (clear H; intro g2 w1 H); go_frame) | ((with_reducible refine Hp.ld H ?_); refine ⟨rfl, ?_⟩; refine ⟨c_look rfl, ?_⟩; refine ⟨_, _, rfl, ?_⟩; (first | refine ⟨_, _, _, .z, ?_⟩ | refine ⟨_, _, _, .s .z, ?_⟩ | refine ⟨_, _, _, .s (.s .z), ?_⟩ | refine ⟨_, _, _, .s (.s (.s .z)), ?_⟩); refine ⟨_, rfl, ?_⟩; go_frame) | ((with_reducible refine Hp.lda H ?_); refine ⟨rfl, by kernel_rfl, ?_⟩; refine ⟨_, s_look rfl, ?_⟩; refine ⟨_, rfl, ?_⟩; (first | refine ⟨_, _, _, .z, ?_⟩ | refine ⟨_, _, _, .s .z, ?_⟩ | refine ⟨_, _, _, .s (.s .z), ?_⟩ | refine ⟨_, _, _, .s (.s (.s .z)), ?_⟩); refine ⟨rfl, ?_⟩; go_frame) | ((with_reducible refine Hp.lds H ?_); refine ⟨rfl, by kernel_rfl, ?_⟩; refine ⟨_, s_look rfl, ?_⟩; refine ⟨_, _, rfl, ?_⟩; (first | refine ⟨_, _, _, .z, ?_⟩ | refine ⟨_, _, _, .s .z, ?_⟩ | refine ⟨_, _, _, .s (.s .z), ?_⟩ | refine ⟨_, _, _, .s (.s (.s .z)), ?_⟩); (first | refine ⟨[_, _], rfl, rfl, ?_⟩ | refine ⟨[_, _, _, _], rfl, rfl, ?_⟩ | refine ⟨[_, _, _, _, _, _, _], rfl, rfl, ?_⟩ | refine ⟨[_, _, _], rfl, rfl, ?_⟩ | (fail)); go_frame) | ((with_reducible refine Hp.sto H ?_); refine ⟨rfl, ?_⟩; refine ⟨c_look rfl, ?_⟩; refine ⟨_, _, rfl, ?_⟩; (first | refine ⟨_, _, _, .z, ?_⟩ | refine ⟨_, _, _, .s .z, ?_⟩ | refine ⟨_, _, _, .s (.s .z), ?_⟩ | refine ⟨_, _, _, .s (.s (.s .z)), ?_⟩); refine ⟨⟨_, rfl⟩, rfl, ?_⟩; (clear H; intro w1 H; simp only [List.set] at H); go_frame) | ((with_reducible refine Hp.sta H ?_); refine ⟨rfl, ?_⟩; refine ⟨_, s_look rfl, ?_⟩; refine ⟨_, rfl, _, rfl, rfl, ?_⟩; (first | refine ⟨_, _, _, .z, ?_⟩ | refine ⟨_, _, _, .s .z, ?_⟩ | refine ⟨_, _, _, .s (.s .z), ?_⟩ | refine ⟨_, _, _, .s (.s (.s .z)), ?_⟩); refine ⟨rfl, rfl, ?_⟩; (clear H; intro w1 H; simp only [List.set] at H); go_frame) | ((with_reducible refine Hp.str H ?_); refine ⟨rfl, ?_⟩; refine ⟨_, s_look rfl, ?_⟩; refine ⟨_, _, rfl, _, rfl, rfl, ?_⟩; (first | refine ⟨_, _, _, .z, ?_⟩ | refine ⟨_, _, _, .s .z, ?_⟩ | refine ⟨_, _, _, .s (.s .z), ?_⟩ | refine ⟨_, _, _, .s (.s (.s .z)), ?_⟩); refine ⟨rfl, _, rfl, _, rfl, Nat.le_of_ble_eq_true rfl, ?_⟩; (clear H; intro w1 H; simp only [List.set] at H); go_frame) | (fail)); exact bodyPost_ret (results_c rfl rfl (H.var (by kernel_rfl) (t := 34) (cs := mgC (cpM m rs l A1 c1 A2 c2)) (.s (.s .z)) s_Msg)) rfl ⟨A1, c1, A2, c2, rfl, H.pick [0, 1] (by decide) rfl⟩)
def cut0 : List Bool := List.replicate 49 false
theorem b_net (n : Int) : Tryd.prog.built 41 [(0, .int .i64 n)] = some (netC n none 0 0 cut0).toArray := by kernel_rfl
theorem nnew_no (n : Int) (w : World) (h : crowdB n = false) : Calls Tryd.prog 18 #[.int .i64 n] w (RetV w (.tuple #[.pointer none, .int .i64 2])) := by
  have H := Hp.nil w
  simp only [crowdB, Bool.or_eq_false_iff, beq_eq_false_iff_ne] at h
  obtain ⟨h3, h5, h7⟩ := h
  have g3 : (n != 3) = true := bne_iff_ne.2 h3
  have g5 : (n != 5) = true := bne_iff_ne.2 h5
  have g7 : (n != 7) = true := bne_iff_ne.2 h7
  clear h3 h5 h7
  go_enter Tryd.func18, Tryd.ntmps18
  go_wp2_with (first | ((with_reducible refine Hp.box H ?_); (first | refine ⟨rfl, mgC m, rfl, ?_⟩); (clear H; intro g1 w1 H); go_frame) | ((with_reducible refine Hp.bdl H ?_); (fail); go_frame) | (fail))
  go_ret2
  exact ⟨rfl, H.below⟩
def RetNew (n : Int) (w : World) (e : Ending) (w' : World) : Prop := ∃ g, e = .returned (.tuple #[.pointer (some ⟨g, 0, none⟩), .int .i64 0]) ∧ Hp w w' [netI g n none 0 0 cut0]
theorem nnew_yes (n : Int) (w : World) (h : crowdB n = true) : Calls Tryd.prog 18 #[.int .i64 n] w (RetNew n w) := by
  have H := Hp.nil w
  have h3 : ((n != 3) = false) ∨ ((n != 3) = true ∧ (n != 5) = false) ∨ ((n != 3) = true ∧ (n != 5) = true ∧ (n != 7) = false) := by
    revert h
    unfold crowdB bne
    cases n == 3 <;> cases n == 5 <;> cases n == 7 <;> simp
  clear h
  rcases h3 with h3 | ⟨h3, h5⟩ | ⟨h3, h5, h7⟩
  all_goals
    go_enter Tryd.func18, Tryd.ntmps18
    go_wp2_with (first | ((with_reducible refine Hp.box H ?_); (first | refine ⟨rfl, netC n none 0 0 cut0, rfl, ?_⟩); (clear H; intro g1 w1 H); go_frame) | ((with_reducible refine Hp.bdl (t := 41) (parts := [_]) H ?_); refine ⟨rfl, netC n none 0 0 cut0, b_net _, ?_⟩; go_frame) | (fail))
    go_ret2
    exact ⟨g1, rfl, H⟩
section
variable {w0 w : World} {g : Nat} {n : Int} {A : Option Addr} {k c : Nat} {cut : List Bool} {L : List Item}
theorem nnone_h (H : Hp w0 w (netI g n A k c cut :: L)) (hn0 : (n == 0) = false) : Calls Tryd.prog 35 #[.pointer (some ⟨g, 0, none⟩)] w (RetH w0 (netI g n A k c cut :: L) (.bool false)) := by
  go_enter Tryd.func35, Tryd.ntmps35
  go_wp2_with (first | ((with_reducible refine Hp.ld H ?_); refine ⟨rfl, ?_⟩; refine ⟨c_look rfl, ?_⟩; refine ⟨_, _, rfl, ?_⟩; (first | refine ⟨_, _, _, .z, ?_⟩ | refine ⟨_, _, _, .s .z, ?_⟩ | refine ⟨_, _, _, .s (.s .z), ?_⟩ | refine ⟨_, _, _, .s (.s (.s .z)), ?_⟩); refine ⟨_, rfl, ?_⟩; go_frame) | (fail))
  go_ret
  exact ⟨rfl, H⟩
theorem npair_h {a b : Int} {r : Bool} (H : Hp w0 w (netI g n A k c cut :: L)) (hn0 : (n == 0) = false) (hp : pairB n a b = r) : Calls Tryd.prog 38 #[.pointer (some ⟨g, 0, none⟩), .int .i64 a, .int .i64 b] w (RetH w0 (netI g n A k c cut :: L) (.bool r)) := by
  subst hp
  unfold pairB
  cases h1 : decide (0 ≤ min a b)
  · go_enter Tryd.func38, Tryd.ntmps38
    go_wp2_with (first | ((with_reducible refine Hp.ld H ?_); refine ⟨rfl, ?_⟩; refine ⟨c_look rfl, ?_⟩; refine ⟨_, _, rfl, ?_⟩; (first | refine ⟨_, _, _, .z, ?_⟩ | refine ⟨_, _, _, .s .z, ?_⟩ | refine ⟨_, _, _, .s (.s .z), ?_⟩ | refine ⟨_, _, _, .s (.s (.s .z)), ?_⟩); refine ⟨_, rfl, ?_⟩; go_frame) | ((with_reducible refine (nnone_h H hn0).mono ?_); rintro _ w1 ⟨rfl, HQ⟩; replace H := HQ; clear HQ))
    go_ret
    exact ⟨ret_bool rfl, H⟩
  cases h2 : decide (max a b < n)
  · go_enter Tryd.func38, Tryd.ntmps38
    go_wp2_with (first | ((with_reducible refine Hp.ld H ?_); refine ⟨rfl, ?_⟩; refine ⟨c_look rfl, ?_⟩; refine ⟨_, _, rfl, ?_⟩; (first | refine ⟨_, _, _, .z, ?_⟩ | refine ⟨_, _, _, .s .z, ?_⟩ | refine ⟨_, _, _, .s (.s .z), ?_⟩ | refine ⟨_, _, _, .s (.s (.s .z)), ?_⟩); refine ⟨_, rfl, ?_⟩; go_frame) | ((with_reducible refine (nnone_h H hn0).mono ?_); rintro _ w1 ⟨rfl, HQ⟩; replace H := HQ; clear HQ))
    go_ret
    exact ⟨ret_bool rfl, H⟩
  cases h3 : (a != b)
  all_goals
    go_enter Tryd.func38, Tryd.ntmps38
    go_wp2_with (first | ((with_reducible refine Hp.ld H ?_); refine ⟨rfl, ?_⟩; refine ⟨c_look rfl, ?_⟩; refine ⟨_, _, rfl, ?_⟩; (first | refine ⟨_, _, _, .z, ?_⟩ | refine ⟨_, _, _, .s .z, ?_⟩ | refine ⟨_, _, _, .s (.s .z), ?_⟩ | refine ⟨_, _, _, .s (.s (.s .z)), ?_⟩); refine ⟨_, rfl, ?_⟩; go_frame) | ((with_reducible refine (nnone_h H hn0).mono ?_); rintro _ w1 ⟨rfl, HQ⟩; replace H := HQ; clear HQ))
    go_ret
    exact ⟨ret_bool rfl, H⟩
theorem ncut_cell {cut : List Bool} (hc : cut.length = 49) {i j : Nat} (hi : i < 7) (hj : j < 7) : (netC n A k c cut)[2 + i * 7 + j]? = some (.bool (cut.getD (i * 7 + j) false)) := by
  have h1 : i * 7 + j < cut.length := by omega
  show (Value.int .i64 n :: .slice A k c :: cut.map Value.bool)[2 + i * 7 + j]? = _
  rw [show 2 + i * 7 + j = (i * 7 + j) + 1 + 1 by omega, List.getElem?_cons_succ, List.getElem?_cons_succ, List.getElem?_map, List.getElem?_eq_getElem h1, List.getD_eq_getElem?_getD, List.getElem?_eq_getElem h1]
  rfl
theorem niscut_h {a b : Int} {r : Bool} (H : Hp w0 w (netI g n A k c cut :: L)) (hn : crowdB n = true) (hc : cut.length = 49) (hr : cutB n cut a b = r) : Calls Tryd.prog 15 #[.pointer (some ⟨g, 0, none⟩), .int .i64 a, .int .i64 b] w (RetH w0 (netI g n A k c cut :: L) (.bool r)) := by
  have hn7 : n ≤ 7 ∧ (n == 0) = false := by
    simp only [crowdB, Bool.or_eq_true, beq_iff_eq] at hn
    rcases hn with h | h | h <;> subst h <;> decide
  obtain ⟨hn7, hn0⟩ := hn7
  clear hn
  unfold cutB at hr
  cases hp : pairB n a b
  · rw [hp] at hr
    obtain rfl : false = r := hr
    clear hc hn7
    go_enter Tryd.func15, Tryd.ntmps15
    go_wp2_with (first | ((with_reducible refine Hp.ld H ?_); refine ⟨rfl, ?_⟩; refine ⟨c_look rfl, ?_⟩; refine ⟨_, _, rfl, ?_⟩; (first | refine ⟨_, _, _, .z, ?_⟩ | refine ⟨_, _, _, .s .z, ?_⟩ | refine ⟨_, _, _, .s (.s .z), ?_⟩ | refine ⟨_, _, _, .s (.s (.s .z)), ?_⟩); refine ⟨_, rfl, ?_⟩; go_frame) | ((with_reducible refine (npair_h H hn0 hp).mono ?_); rintro _ w1 ⟨rfl, HQ⟩; replace H := HQ; clear HQ) | ((with_reducible refine Hp.ld H ?_); refine ⟨rfl, c_look rfl, _, _, rfl, _, _, _, .z, .bool r, hcell, ?_⟩; go_frame))
    go_ret
    exact ⟨rfl, H⟩
  · rw [hp, Bool.true_and] at hr
    have hp2 := hp
    simp only [pairB, Bool.and_eq_true, decide_eq_true_eq] at hp2
    obtain ⟨q1, q2, q3⟩ := hp2
    obtain ⟨i, hi⟩ : ∃ i : Nat, min a b = i := ⟨(min a b).toNat, by omega⟩
    obtain ⟨j, hj⟩ : ∃ i : Nat, max a b = i := ⟨(max a b).toNat, by omega⟩
    have hi7 : i < 7 := by omega
    have hj7 : j < 7 := by omega
    have hcell := ncut_cell (n := n) (A := A) (k := k) (c := c) hc hi7 hj7
    have e : ixC a b = i * 7 + j := by unfold ixC; rw [hi, hj]; rfl
    rw [← e, hr] at hcell
    clear hr e q1 q2 q3 hn7 hc
    go_enter Tryd.func15, Tryd.ntmps15
    go_wp2_with (first | ((with_reducible refine Hp.ld H ?_); refine ⟨rfl, ?_⟩; refine ⟨c_look rfl, ?_⟩; refine ⟨_, _, rfl, ?_⟩; (first | refine ⟨_, _, _, .z, ?_⟩ | refine ⟨_, _, _, .s .z, ?_⟩ | refine ⟨_, _, _, .s (.s .z), ?_⟩ | refine ⟨_, _, _, .s (.s (.s .z)), ?_⟩); refine ⟨_, rfl, ?_⟩; go_frame) | ((with_reducible refine (npair_h H hn0 hp).mono ?_); rintro _ w1 ⟨rfl, HQ⟩; replace H := HQ; clear HQ) | ((with_reducible refine Hp.ld H ?_); refine ⟨rfl, c_look rfl, _, _, rfl, _, _, _, .z, .bool r, hcell, ?_⟩; go_frame))
    go_ret
    exact ⟨rfl, H⟩
end
end Go.Proofs.YtiieakndjheknaaDoor
