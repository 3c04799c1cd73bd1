/-
  THE WALK OF the law NetOnce.
-/
import Derived.Test.YtiieakndjheknaaDoorNtOsend
import Derived.Test.YtiieakndjheknaaDoorNtOtake
import Derived.Test.YtiieakndjheknaaDoorNtOcopy
import Derived.Test.YtiieakndjheknaaDoorNtOcut
import Derived.Test.YtiieakndjheknaaDoorNtOheal
import Derived.Test.YtiieakndjheknaaDoorNtOnone
namespace Go.Proofs.YtiieakndjheknaaDoor
set_option maxRecDepth 100000
open Go.RowKit
set_option linter.unusedVariables false
set_option linter.unusedSimpArgs false
set_option maxHeartbeats 40000000 in
theorem netOnce_walk (n : Int) (A : Option Addr) (c : Nat) (ac : List Ac) (w : World) (hF : FldW w) (b0 : -9223372036854775808 ≤ n) (b1 : n ≤ 9223372036854775807) (hr : RdR acC 30 w A ac) (hok : ∀ x ∈ ac, AcOk w x) (hc : ac.length ≤ c) (hm : c ≤ maxLen) :
    Calls Tryd.prog 5 #[.int .i64 n, .slice A ac.length c] w (RetV w (.bool true)) := by
  have HGA : Hid (∀ w', Below w.heap.size w w' → Calls Tryd.prog 17 #[.slice A ac.length c] w' (RetV w' (.bool (grA ac)))) := Lib.hid (fun w' hb => great28_any A c ac w' (hr.below hb) (fun x hx => (hok x hx).below hb))
  cases hg : grA ac
  · rw [hg] at HGA
    obtain ⟨hgl0, hgl⟩ := grA_no hg
    obtain ⟨N, hN, hN3⟩ : ∃ N : Nat, wrap64 ((IntKind.u64.wrap n).tmod 3) = (N : Int) ∧ N < 3 := mod_small n 3 (by decide) (by decide)
    obtain ⟨m, hm1⟩ : ∃ m : Nat, m = 3 + 2 * N := ⟨_, rfl⟩
    have hn' : (3 : Int) + 2 * (N : Int) = (m : Int) := by omega
    have hcn : crowdB (m : Int) = true := by
      have : m = 3 ∨ m = 5 ∨ m = 7 := by omega
      rcases this with h | h | h <;> rw [h] <;> decide
    have hm0 : ¬ m = 0 := by omega
    have hum : IntKind.u64.wrap (m : Int) = (m : Int) := IntWalk.u64_in _ (by omega)
    have hm7 : m ≤ 7 := by omega
    clear hm1
    go_enter Tryd.func5, Tryd.ntmps5
    go_wp2_with (first | ((with_reducible refine Hp.allo H ?_); refine ⟨rfl, ?_⟩; refine ⟨_, z_look rfl, ?_⟩; (clear H; intro g1 w1 H); go_frame) | ((with_reducible refine Hp.ld H ?_); refine ⟨rfl, ?_⟩; refine ⟨c_look rfl, ?_⟩; refine ⟨_, _, rfl, ?_⟩; ((repeat ((fail_if_success refine ⟨_, _, _, .z, ?_⟩); refine hs ?_)); refine ⟨_, _, _, .z, ?_⟩); refine ⟨_, rfl, ?_⟩; go_frame) | ((with_reducible refine Hp.lda H ?_); refine ⟨rfl, by kernel_rfl, ?_⟩; refine ⟨_, s_look rfl, ?_⟩; refine ⟨_, rfl, ?_⟩; ((repeat ((fail_if_success refine ⟨_, _, _, .z, ?_⟩); refine hs ?_)); refine ⟨_, _, _, .z, ?_⟩); refine ⟨rfl, ?_⟩; go_frame) | ((with_reducible refine Hp.lds H ?_); refine ⟨rfl, by kernel_rfl, ?_⟩; refine ⟨_, s_look rfl, ?_⟩; refine ⟨_, _, rfl, ?_⟩; ((repeat ((fail_if_success refine ⟨_, _, _, .z, ?_⟩); refine hs ?_)); refine ⟨_, _, _, .z, ?_⟩); (first | refine ⟨[_, _], rfl, rfl, ?_⟩ | refine ⟨[_, _, _, _], rfl, rfl, ?_⟩ | refine ⟨[_, _, _, _, _, _, _], rfl, rfl, ?_⟩ | refine ⟨[_, _, _], rfl, rfl, ?_⟩ | (fail)); go_frame) | ((with_reducible refine Hp.sta H ?_); refine ⟨rfl, ?_⟩; refine ⟨_, s_look rfl, ?_⟩; refine ⟨_, rfl, _, rfl, rfl, ?_⟩; ((repeat ((fail_if_success refine ⟨_, _, _, .z, ?_⟩); refine hs ?_)); refine ⟨_, _, _, .z, ?_⟩); refine ⟨rfl, rfl, ?_⟩; (clear H; intro w1 H; simp only [List.set] at H); go_frame) | ((with_reducible refine Hp.str H ?_); refine ⟨rfl, ?_⟩; refine ⟨_, s_look rfl, ?_⟩; refine ⟨_, _, rfl, _, rfl, rfl, ?_⟩; ((repeat ((fail_if_success refine ⟨_, _, _, .z, ?_⟩); refine hs ?_)); refine ⟨_, _, _, .z, ?_⟩); refine ⟨rfl, _, rfl, _, rfl, Nat.le_of_ble_eq_true rfl, ?_⟩; (clear H; intro w1 H; simp only [List.set] at H); go_frame) | ((with_reducible refine (awake28_any _ hF).mono ?_); rintro _ wA ⟨rfl, hbA⟩) | ((with_reducible refine (HGA.out _ hbA).mono ?_); rintro _ wB ⟨rfl, hbB⟩) | ((with_reducible refine (nnew_yes (m : Int) _ hcn).mono ?_); rintro _ wD ⟨g, rfl, H0⟩; have HN := NetZ.new H0; clear H0))
    have hFC : FldW wB := (hF.below hbA).below hbB
    have hrC : RdR acC 30 wB A ac := (hr.below hbA).below hbB
    have hokC : ∀ x ∈ ac, AcOk wB x := fun x hx => ((hok x hx).below hbA).below hbB
    have hbW : Below w.heap.size w wB := hbA.trans (hbB.mono hbA.size)
    clear hr hok hF hbA hbB HGA hN hn'
    have hat : OnRel wB g m ac.length (.slice none 0 0) (.int .i64 (0 : Nat)) wD := by
      obtain ⟨A1, c1, fl1, q1, q2, q3, q4, H⟩ := HN
      exact ⟨0, cut0, [], none, 0, [], rfl, rfl, Nat.zero_le _, OI.nil m cut0, NetZ.mk1 q1 q2 q3 q4 (H.nilRow _ _)⟩
    clear HN
    go_loopw [7, 8] (fun v7 v8 wr => OnRel wB g m ac.length v7 v8 wr) (fun _ v _ => ac.length - (intOf v).toNat)
    case atStart => exact hat
    case round =>
      clear hat
      obtain ⟨i, cut, cs, Af, cf, Z, rfl, rfl, hi, hI, HN⟩ := hrel
      by_cases hlt : i < ac.length
      · obtain ⟨bA, oA, rfl, hrow⟩ := ac_row hrC hlt
        obtain ⟨hk8, hmn, hmr, haI, hbI⟩ := hokC ac[i] (List.getElem_mem hlt)
        have hi1 : IntKind.i64.wrap ((i : Int) + 1) = ((i : Int) + 1) := IntWalk.i64_in _ (by omega)
        have haM : ac[i].a ≤ 9223372036854775807 := haI.2
        obtain ⟨K, hK⟩ : ∃ K : Nat, ac[i].k = K := ⟨ac[i].k.toNat, by omega⟩
        obtain ⟨q, hq⟩ : ∃ q : Nat, K % 10 = q := ⟨_, rfl⟩
        have hq1 : (K : Int).tmod 10 = (q : Int) := by rw [← hq]; rfl
        have hq10 : q < 10 := by omega
        have hqw : IntKind.u8.wrap (q : Int) = (q : Int) := IntWalk.u8_in _ (by omega)
        obtain ⟨x, hx, hxm⟩ := mod_small ac[i].a m (by omega) (by omega)
        obtain ⟨y, hy, hym⟩ := mod_small ac[i].b m (by omega) (by omega)
        obtain ⟨V, hV⟩ : ∃ V : Ac, ac[i] = V := ⟨_, rfl⟩
        rw [hV] at hrow hK haM hx hy
        clear hmn haI hbI hk8 hmr hq hV
        go_wp2_with (first | (fail) | ((with_reducible refine Hp.ld H ?_); refine ⟨rfl, ?_⟩; refine ⟨c_look rfl, ?_⟩; refine ⟨_, _, rfl, ?_⟩; ((repeat ((fail_if_success refine ⟨_, _, _, .z, ?_⟩); refine hs ?_)); refine ⟨_, _, _, .z, ?_⟩); refine ⟨_, rfl, ?_⟩; go_frame) | ((with_reducible refine Hp.lda H ?_); refine ⟨rfl, by kernel_rfl, ?_⟩; refine ⟨_, s_look rfl, ?_⟩; refine ⟨_, rfl, ?_⟩; ((repeat ((fail_if_success refine ⟨_, _, _, .z, ?_⟩); refine hs ?_)); refine ⟨_, _, _, .z, ?_⟩); refine ⟨rfl, ?_⟩; go_frame) | ((with_reducible refine Hp.lds H ?_); refine ⟨rfl, by kernel_rfl, ?_⟩; refine ⟨_, s_look rfl, ?_⟩; refine ⟨_, _, rfl, ?_⟩; ((repeat ((fail_if_success refine ⟨_, _, _, .z, ?_⟩); refine hs ?_)); refine ⟨_, _, _, .z, ?_⟩); (first | refine ⟨[_, _], rfl, rfl, ?_⟩ | refine ⟨[_, _, _, _], rfl, rfl, ?_⟩ | refine ⟨[_, _, _, _, _, _, _], rfl, rfl, ?_⟩ | refine ⟨[_, _, _], rfl, rfl, ?_⟩ | (fail)); go_frame) | (fail) | (fail) | ((with_reducible refine NetZ.ldrO HN ?_); refine ⟨rfl, by kernel_rfl, _, _, rfl, acC V, hrow, s_nAct, ?_⟩; go_frame) | ((obtain ⟨A6, c6, fl6, q1, q2, q3, q4, H⟩ := HN); (with_reducible refine Hp.allo (ty := 58) H ?_); refine ⟨rfl, ?_⟩; refine ⟨_, z_nAct, ?_⟩; (clear H; intro g9 w1 H); go_frame) | ((with_reducible refine Hp.sta H ?_); refine ⟨rfl, ?_⟩; refine ⟨_, s_nAct, ?_⟩; refine ⟨_, rfl, acC V, rfl, rfl, ?_⟩; refine ⟨_, _, _, .z, ?_⟩; refine ⟨rfl, rfl, ?_⟩; (clear H; intro w1 H; simp only [List.set] at H); go_frame))
        replace H := H.rot3
        simp only [List.cons_append, List.nil_append] at H
        ((with_reducible refine wp_region_hpK H (by kernel_rfl) (by kernel_rfl) ?_); intro _ KQ hKQ; (repeat (first | go_big_quiet_skip | ((with_reducible refine hq_ld ?_); refine ⟨rfl, ?_⟩; refine ⟨c_look rfl, ?_⟩; refine ⟨_, _, rfl, ?_⟩; (first | refine ⟨_, _, _, .z, ?_⟩ | refine ⟨_, _, _, .s .z, ?_⟩ | refine ⟨_, _, _, .s (.s .z), ?_⟩ | refine ⟨_, _, _, .s (.s (.s .z)), ?_⟩); refine ⟨_, rfl, ?_⟩; go_frame) | ((with_reducible refine hq_lda ?_); refine ⟨rfl, by kernel_rfl, ?_⟩; refine ⟨_, s_look rfl, ?_⟩; refine ⟨_, rfl, ?_⟩; (first | refine ⟨_, _, _, .z, ?_⟩ | refine ⟨_, _, _, .s .z, ?_⟩ | refine ⟨_, _, _, .s (.s .z), ?_⟩ | refine ⟨_, _, _, .s (.s (.s .z)), ?_⟩); refine ⟨rfl, ?_⟩; go_frame) | ((with_reducible refine hq_lds ?_); refine ⟨rfl, by kernel_rfl, ?_⟩; refine ⟨_, s_look rfl, ?_⟩; refine ⟨_, _, rfl, ?_⟩; (first | refine ⟨_, _, _, .z, ?_⟩ | refine ⟨_, _, _, .s .z, ?_⟩ | refine ⟨_, _, _, .s (.s .z), ?_⟩ | refine ⟨_, _, _, .s (.s (.s .z)), ?_⟩); (first | refine ⟨[_, _], rfl, rfl, ?_⟩ | refine ⟨[_, _, _, _], rfl, rfl, ?_⟩ | refine ⟨[_, _, _, _, _, _, _], rfl, rfl, ?_⟩ | refine ⟨[_, _, _], rfl, rfl, ?_⟩ | (fail)); go_frame) | (fail) | go_big_quiet_step ((fail)))); (with_reducible refine wpQuiet_nil (hKQ _ ?_)); clear hKQ; clear KQ H; intro w1 H)
        have HN : NetZ wB w1 g (m : Int) cut cs [.blk g9 58 (acC V), mwI Af cf cs] Z := NetZ.mk0 (F := [_, _]) q1 q2 q3 q4 H
        clear H q1 q2 q3 q4
        rw [hx, hy]
        have hVk : (acC V)[0]? = some (.int .u8 (K : Int)) := by show some (Value.int .u8 V.k) = _; rw [hK]
        go_upto_block 2 with (first | ((with_reducible refine NetZ.ldc HN ?_); refine ⟨rfl, c_look rfl, _, rfl, .int .u8 (K : Int), hVk, ?_⟩; go_frame))
        go_cut [7] (fun v7 wx => MdRel wB g m v7 wx)
        case first =>
          have hi3 : i < 300 := by omega
          have hkind : q < 4 ∨ (q = 4 ∨ q = 6) ∨ q = 5 ∨ q = 7 ∨ q = 8 ∨ q = 9 := by omega
          clear hVk hrow hK hx hy
          rcases hkind with hk | hk | hk | hk | hk | hk
          · exact sw_send hk hFC hcn hm7 hxm hym hi3 haM hi1 hI HN (by assumption) (by assumption)
          · exact sw_take hk hFC hcn hm7 hxm hym hi3 haM hi1 hI HN (fun _ _ _ _ _ h => h) (by assumption) (by assumption)
          · exact sw_copy hk hFC hcn hm7 hxm hym hi3 haM hi1 hI HN (by assumption) (by assumption)
          · exact sw_cut hk hFC hcn hm7 hxm hym hi3 haM hi1 hI HN (by assumption) (by assumption)
          · exact sw_heal hk hFC hcn hm7 hxm hym hi3 haM hi1 hI HN (by assumption) (by assumption)
          · exact sw_none hk hFC hcn hm7 hxm hym hi3 haM hi1 hI HN (by assumption) (by assumption)
        case rest =>
          clear HN hI hVk hrow hK hx hy
          obtain ⟨cut, cs, Af, cf, Z, rfl, hI, HN⟩ := hcut
          · --@way tail
            have HG : Hid (∀ out : List MX, out.map cx = cs → ((out.length : Int) != (cs.length : Int)) = false) := Lib.hid (fun out h => beq_nat' (by rw [← h, List.length_map]))
            as_aux_lemma =>
              go_wp2_with (first | (fail) | ((with_reducible refine Hp.ld H ?_); refine ⟨rfl, ?_⟩; refine ⟨c_look rfl, ?_⟩; refine ⟨_, _, rfl, ?_⟩; (first | refine ⟨_, _, _, .z, ?_⟩ | refine ⟨_, _, _, .s .z, ?_⟩ | refine ⟨_, _, _, .s (.s .z), ?_⟩ | refine ⟨_, _, _, .s (.s (.s .z)), ?_⟩); refine ⟨_, rfl, ?_⟩; go_frame) | ((with_reducible refine Hp.lda H ?_); refine ⟨rfl, by kernel_rfl, ?_⟩; refine ⟨_, s_look rfl, ?_⟩; refine ⟨_, rfl, ?_⟩; (first | refine ⟨_, _, _, .z, ?_⟩ | refine ⟨_, _, _, .s .z, ?_⟩ | refine ⟨_, _, _, .s (.s .z), ?_⟩ | refine ⟨_, _, _, .s (.s (.s .z)), ?_⟩); refine ⟨rfl, ?_⟩; go_frame) | ((with_reducible refine Hp.lds H ?_); refine ⟨rfl, by kernel_rfl, ?_⟩; refine ⟨_, s_look rfl, ?_⟩; refine ⟨_, _, rfl, ?_⟩; (first | refine ⟨_, _, _, .z, ?_⟩ | refine ⟨_, _, _, .s .z, ?_⟩ | refine ⟨_, _, _, .s (.s .z), ?_⟩ | refine ⟨_, _, _, .s (.s (.s .z)), ?_⟩); (first | refine ⟨[_, _], rfl, rfl, ?_⟩ | refine ⟨[_, _, _, _], rfl, rfl, ?_⟩ | refine ⟨[_, _, _, _, _, _, _], rfl, rfl, ?_⟩ | refine ⟨[_, _, _], rfl, rfl, ?_⟩ | (fail)); go_frame) | (fail) | (fail) | ((with_reducible refine (nall_o HN hcn).mono ?_); rintro _ w1 ⟨Ao, co, out, N1, Z3, rfl, ho, hN1, hZs, HN2⟩; clear HN hZs; (have HN := HN2); clear HN2; have hg := HG.out out ho))
              replace HN := HN.al2
              have hN2 : Held (N1 ++ Z3) out := hN1.mono (fun i hi => List.mem_append_left _ hi)
              have hlen200 := HN.len
              have hol : out.length = cs.length := by rw [← ho, List.length_map]
              have hatS : SmRel wB g (m : Int) cut cs [mwI Ao co out, mwI Af cf cs] (N1 ++ Z3) out.length (.int .i64 (0 : Nat)) w1 := ⟨0, rfl, Nat.zero_le _, HN⟩
              clear HN hg HG hN1
              go_loopw [23] (fun v wr => SmRel wB g (m : Int) cut cs [mwI Ao co out, mwI Af cf cs] (N1 ++ Z3) out.length v wr) (fun v _ => out.length - (intOf v).toNat)
              case atStart => exact hatS
              case round =>
                clear hatS
                obtain ⟨k, rfl, hk, HN⟩ := hrel
                by_cases hkl : k < out.length
                · have hkc : k < cs.length := by omega
                  have hk2 : IntKind.i64.wrap ((k : Int) + 1) = ((k + 1 : Nat) : Int) := IntWalk.i64_in _ (by omega)
                  have hoc : cx out[k] = cs[k] := by
                    have h1 : (out.map cx)[k]? = cs[k]? := by rw [ho]
                    rw [List.getElem?_map, List.getElem?_eq_getElem hkl, List.getElem?_eq_getElem hkc] at h1
                    injection h1
                  have hcx : cx cs[k] = cs[k] := (hI.1 _ (List.getElem_mem hkc)).cx
                  have hsame : sameM out[k].m out[k].rs out[k].l cs[k].m cs[k].rs cs[k].l = true := sameX.2 (hoc.trans hcx.symm)
                  have hcr := (hI.1 _ (List.getElem_mem hkc)).r
                  have hMS : MgS wB (N1 ++ Z3) out[k].m out[k].rs out[k].l := hN2.S (List.getElem_mem hkl) wB
                  obtain ⟨A6, c6, fl6, q1, q2, q3, q4, H⟩ := HN
                  simp only [List.cons_append, List.nil_append] at H
                  obtain ⟨gO, rfl⟩ := H.rowsA 2 rfl (by omega)
                  obtain ⟨gF, rfl⟩ := H.rowsA 3 rfl (by omega)
                  have hrO := fun y => HpS.row (L := netI g (m : Int) A6 fl6.length c6 cut :: mwI A6 c6 fl6 :: mwI (some ⟨gO, 0, none⟩) co out :: mwI (some ⟨gF, 0, none⟩) cf cs :: (N1 ++ Z3)) (w0 := wB) 2 rfl hkl y
                  have hrF := fun y => HpS.row (L := netI g (m : Int) A6 fl6.length c6 cut :: mwI A6 c6 fl6 :: mwI (some ⟨gO, 0, none⟩) co out :: mwI (some ⟨gF, 0, none⟩) cf cs :: (N1 ++ Z3)) (w0 := wB) 3 rfl hkc y
                  clear hoc hcx
                  go_wp2_with (first | (fail) | ((with_reducible refine Hp.ld H ?_); refine ⟨rfl, ?_⟩; refine ⟨c_look rfl, ?_⟩; refine ⟨_, _, rfl, ?_⟩; (first | refine ⟨_, _, _, .z, ?_⟩ | refine ⟨_, _, _, .s .z, ?_⟩ | refine ⟨_, _, _, .s (.s .z), ?_⟩ | refine ⟨_, _, _, .s (.s (.s .z)), ?_⟩); refine ⟨_, rfl, ?_⟩; go_frame) | ((with_reducible refine Hp.lda H ?_); refine ⟨rfl, by kernel_rfl, ?_⟩; refine ⟨_, s_look rfl, ?_⟩; refine ⟨_, rfl, ?_⟩; (first | refine ⟨_, _, _, .z, ?_⟩ | refine ⟨_, _, _, .s .z, ?_⟩ | refine ⟨_, _, _, .s (.s .z), ?_⟩ | refine ⟨_, _, _, .s (.s (.s .z)), ?_⟩); refine ⟨rfl, ?_⟩; go_frame) | ((with_reducible refine Hp.lds H ?_); refine ⟨rfl, by kernel_rfl, ?_⟩; refine ⟨_, s_look rfl, ?_⟩; refine ⟨_, _, rfl, ?_⟩; (first | refine ⟨_, _, _, .z, ?_⟩ | refine ⟨_, _, _, .s .z, ?_⟩ | refine ⟨_, _, _, .s (.s .z), ?_⟩ | refine ⟨_, _, _, .s (.s (.s .z)), ?_⟩); (first | refine ⟨[_, _], rfl, rfl, ?_⟩ | refine ⟨[_, _, _, _], rfl, rfl, ?_⟩ | refine ⟨[_, _, _, _, _, _, _], rfl, rfl, ?_⟩ | refine ⟨[_, _, _], rfl, rfl, ?_⟩ | (fail)); go_frame) | (fail) | (fail) | (fail))
                  ((with_reducible refine wp_region_hpK H (by kernel_rfl) (by kernel_rfl) ?_); intro _ KQ hKQ; (repeat (first | go_big_quiet_skip | ((with_reducible refine hq_ld ?_); refine ⟨rfl, ?_⟩; refine ⟨c_look rfl, ?_⟩; refine ⟨_, _, rfl, ?_⟩; (first | refine ⟨_, _, _, .z, ?_⟩ | refine ⟨_, _, _, .s .z, ?_⟩ | refine ⟨_, _, _, .s (.s .z), ?_⟩ | refine ⟨_, _, _, .s (.s (.s .z)), ?_⟩); refine ⟨_, rfl, ?_⟩; go_frame) | ((with_reducible refine hq_lda ?_); refine ⟨rfl, by kernel_rfl, ?_⟩; refine ⟨_, s_look rfl, ?_⟩; refine ⟨_, rfl, ?_⟩; (first | refine ⟨_, _, _, .z, ?_⟩ | refine ⟨_, _, _, .s .z, ?_⟩ | refine ⟨_, _, _, .s (.s .z), ?_⟩ | refine ⟨_, _, _, .s (.s (.s .z)), ?_⟩); refine ⟨rfl, ?_⟩; go_frame) | ((with_reducible refine hq_lds ?_); refine ⟨rfl, by kernel_rfl, ?_⟩; refine ⟨_, s_look rfl, ?_⟩; refine ⟨_, _, rfl, ?_⟩; (first | refine ⟨_, _, _, .z, ?_⟩ | refine ⟨_, _, _, .s .z, ?_⟩ | refine ⟨_, _, _, .s (.s .z), ?_⟩ | refine ⟨_, _, _, .s (.s (.s .z)), ?_⟩); (first | refine ⟨[_, _], rfl, rfl, ?_⟩ | refine ⟨[_, _, _, _], rfl, rfl, ?_⟩ | refine ⟨[_, _, _, _, _, _, _], rfl, rfl, ?_⟩ | refine ⟨[_, _, _], rfl, rfl, ?_⟩ | (fail)); go_frame) | ((with_reducible refine hq_ldRw ?_); refine ⟨rfl, by kernel_rfl, _, _, rfl, mgC out[k].m, hrO, s_Msg, ?_⟩; go_frame) | ((with_reducible refine hq_ldRw ?_); refine ⟨rfl, by kernel_rfl, _, _, rfl, mgC cs[k].m, hrF, s_Msg, ?_⟩; go_frame) | go_big_quiet_step ((with_reducible exact hq_call (msame_v hsame (hMS.at_ _ sub4) (hcr _)))))); (with_reducible refine wpQuiet_nil (hKQ _ ?_)); clear hKQ; clear KQ H; intro w1 H)
                  have HN : NetZ wB w1 g (m : Int) cut cs [mwI (some ⟨gO, 0, none⟩) co out, mwI (some ⟨gF, 0, none⟩) cf cs] (N1 ++ Z3) := NetZ.mk0 (F := [_, _]) q1 q2 q3 q4 H
                  go_wp2_with (first | (fail) | ((with_reducible refine Hp.ld H ?_); refine ⟨rfl, ?_⟩; refine ⟨c_look rfl, ?_⟩; refine ⟨_, _, rfl, ?_⟩; (first | refine ⟨_, _, _, .z, ?_⟩ | refine ⟨_, _, _, .s .z, ?_⟩ | refine ⟨_, _, _, .s (.s .z), ?_⟩ | refine ⟨_, _, _, .s (.s (.s .z)), ?_⟩); refine ⟨_, rfl, ?_⟩; go_frame) | ((with_reducible refine Hp.lda H ?_); refine ⟨rfl, by kernel_rfl, ?_⟩; refine ⟨_, s_look rfl, ?_⟩; refine ⟨_, rfl, ?_⟩; (first | refine ⟨_, _, _, .z, ?_⟩ | refine ⟨_, _, _, .s .z, ?_⟩ | refine ⟨_, _, _, .s (.s .z), ?_⟩ | refine ⟨_, _, _, .s (.s (.s .z)), ?_⟩); refine ⟨rfl, ?_⟩; go_frame) | ((with_reducible refine Hp.lds H ?_); refine ⟨rfl, by kernel_rfl, ?_⟩; refine ⟨_, s_look rfl, ?_⟩; refine ⟨_, _, rfl, ?_⟩; (first | refine ⟨_, _, _, .z, ?_⟩ | refine ⟨_, _, _, .s .z, ?_⟩ | refine ⟨_, _, _, .s (.s .z), ?_⟩ | refine ⟨_, _, _, .s (.s (.s .z)), ?_⟩); (first | refine ⟨[_, _], rfl, rfl, ?_⟩ | refine ⟨[_, _, _, _], rfl, rfl, ?_⟩ | refine ⟨[_, _, _, _, _, _, _], rfl, rfl, ?_⟩ | refine ⟨[_, _, _], rfl, rfl, ?_⟩ | (fail)); go_frame) | (fail) | (fail) | (fail))
                  go_roundw
                  case rel => exact ⟨k + 1, rfl, hkl, HN⟩
                  case measure => show out.length - (k + 1) < out.length - k; omega
                · obtain rfl : k = out.length := by omega
                  have hjj : decide ((out.length : Int) < (out.length : Int)) = false := decide_eq_false (by omega)
                  go_wp2_with (first | (fail) | ((with_reducible refine Hp.ld H ?_); refine ⟨rfl, ?_⟩; refine ⟨c_look rfl, ?_⟩; refine ⟨_, _, rfl, ?_⟩; (first | refine ⟨_, _, _, .z, ?_⟩ | refine ⟨_, _, _, .s .z, ?_⟩ | refine ⟨_, _, _, .s (.s .z), ?_⟩ | refine ⟨_, _, _, .s (.s (.s .z)), ?_⟩); refine ⟨_, rfl, ?_⟩; go_frame) | ((with_reducible refine Hp.lda H ?_); refine ⟨rfl, by kernel_rfl, ?_⟩; refine ⟨_, s_look rfl, ?_⟩; refine ⟨_, rfl, ?_⟩; (first | refine ⟨_, _, _, .z, ?_⟩ | refine ⟨_, _, _, .s .z, ?_⟩ | refine ⟨_, _, _, .s (.s .z), ?_⟩ | refine ⟨_, _, _, .s (.s (.s .z)), ?_⟩); refine ⟨rfl, ?_⟩; go_frame) | ((with_reducible refine Hp.lds H ?_); refine ⟨rfl, by kernel_rfl, ?_⟩; refine ⟨_, s_look rfl, ?_⟩; refine ⟨_, _, rfl, ?_⟩; (first | refine ⟨_, _, _, .z, ?_⟩ | refine ⟨_, _, _, .s .z, ?_⟩ | refine ⟨_, _, _, .s (.s .z), ?_⟩ | refine ⟨_, _, _, .s (.s (.s .z)), ?_⟩); (first | refine ⟨[_, _], rfl, rfl, ?_⟩ | refine ⟨[_, _, _, _], rfl, rfl, ?_⟩ | refine ⟨[_, _, _, _, _, _, _], rfl, rfl, ?_⟩ | refine ⟨[_, _, _], rfl, rfl, ?_⟩ | (fail)); go_frame) | (fail) | (fail) | (fail))
                  go_roundw
                  case rel => exact ⟨i + 1, cut, cs, Af, cf, _, rfl, rfl, hlt, hI, HN.drop⟩
                  case measure => show ac.length - (i + 1) < ac.length - i; omega
      · obtain rfl : i = ac.length := by omega
        have hjj : decide ((ac.length : Int) < (ac.length : Int)) = false := decide_eq_false (by omega)
        go_wp2_with (first | (fail) | ((with_reducible refine Hp.ld H ?_); refine ⟨rfl, ?_⟩; refine ⟨c_look rfl, ?_⟩; refine ⟨_, _, rfl, ?_⟩; (first | refine ⟨_, _, _, .z, ?_⟩ | refine ⟨_, _, _, .s .z, ?_⟩ | refine ⟨_, _, _, .s (.s .z), ?_⟩ | refine ⟨_, _, _, .s (.s (.s .z)), ?_⟩); refine ⟨_, rfl, ?_⟩; go_frame) | ((with_reducible refine Hp.lda H ?_); refine ⟨rfl, by kernel_rfl, ?_⟩; refine ⟨_, s_look rfl, ?_⟩; refine ⟨_, rfl, ?_⟩; (first | refine ⟨_, _, _, .z, ?_⟩ | refine ⟨_, _, _, .s .z, ?_⟩ | refine ⟨_, _, _, .s (.s .z), ?_⟩ | refine ⟨_, _, _, .s (.s (.s .z)), ?_⟩); refine ⟨rfl, ?_⟩; go_frame) | ((with_reducible refine Hp.lds H ?_); refine ⟨rfl, by kernel_rfl, ?_⟩; refine ⟨_, s_look rfl, ?_⟩; refine ⟨_, _, rfl, ?_⟩; (first | refine ⟨_, _, _, .z, ?_⟩ | refine ⟨_, _, _, .s .z, ?_⟩ | refine ⟨_, _, _, .s (.s .z), ?_⟩ | refine ⟨_, _, _, .s (.s (.s .z)), ?_⟩); (first | refine ⟨[_, _], rfl, rfl, ?_⟩ | refine ⟨[_, _, _, _], rfl, rfl, ?_⟩ | refine ⟨[_, _, _, _, _, _, _], rfl, rfl, ?_⟩ | refine ⟨[_, _, _], rfl, rfl, ?_⟩ | (fail)); go_frame) | (fail) | (fail) | (fail))
        go_ret
        exact ⟨rfl, hbW.trans (HN.below.mono hbW.size)⟩
  · rw [hg] at HGA
    go_enter Tryd.func5, Tryd.ntmps5
    go_wp2_with (first | (fail) | ((with_reducible refine Hp.ld H ?_); refine ⟨rfl, ?_⟩; refine ⟨c_look rfl, ?_⟩; refine ⟨_, _, rfl, ?_⟩; (first | refine ⟨_, _, _, .z, ?_⟩ | refine ⟨_, _, _, .s .z, ?_⟩ | refine ⟨_, _, _, .s (.s .z), ?_⟩ | refine ⟨_, _, _, .s (.s (.s .z)), ?_⟩); refine ⟨_, rfl, ?_⟩; go_frame) | ((with_reducible refine Hp.lda H ?_); refine ⟨rfl, by kernel_rfl, ?_⟩; refine ⟨_, s_look rfl, ?_⟩; refine ⟨_, rfl, ?_⟩; (first | refine ⟨_, _, _, .z, ?_⟩ | refine ⟨_, _, _, .s .z, ?_⟩ | refine ⟨_, _, _, .s (.s .z), ?_⟩ | refine ⟨_, _, _, .s (.s (.s .z)), ?_⟩); refine ⟨rfl, ?_⟩; go_frame) | ((with_reducible refine Hp.lds H ?_); refine ⟨rfl, by kernel_rfl, ?_⟩; refine ⟨_, s_look rfl, ?_⟩; refine ⟨_, _, rfl, ?_⟩; (first | refine ⟨_, _, _, .z, ?_⟩ | refine ⟨_, _, _, .s .z, ?_⟩ | refine ⟨_, _, _, .s (.s .z), ?_⟩ | refine ⟨_, _, _, .s (.s (.s .z)), ?_⟩); (first | refine ⟨[_, _], rfl, rfl, ?_⟩ | refine ⟨[_, _, _, _], rfl, rfl, ?_⟩ | refine ⟨[_, _, _, _, _, _, _], rfl, rfl, ?_⟩ | refine ⟨[_, _, _], rfl, rfl, ?_⟩ | (fail)); go_frame) | (fail) | (fail) | ((with_reducible refine (awake28_any _ hF).mono ?_); rintro _ wA ⟨rfl, hbA⟩) | ((with_reducible refine (HGA.out _ hbA).mono ?_); rintro _ wB ⟨rfl, hbB⟩))
    go_ret
    exact ⟨rfl, hbA.trans (hbB.mono hbA.size)⟩
end Go.Proofs.YtiieakndjheknaaDoor
