/-
  THE WALK OF the law NetCut.
-/
import Derived.Test.YtiieakndjheknaaDoorNtM
namespace Go.Proofs.YtiieakndjheknaaDoor
set_option maxRecDepth 100000
open Go.RowKit
set_option linter.unusedVariables false
set_option linter.unusedSimpArgs false
set_option maxHeartbeats 40000000 in
theorem netCut_walk (n : Int) (A : Option Addr) (c : Nat) (ac : List Ac) (a b cl : Int) (w : World) (hF : FldW w) (b0 : -9223372036854775808 ≤ n) (b1 : n ≤ 9223372036854775807) (hr : RdR acC 30 w A ac) (hok : ∀ x ∈ ac, AcOk w x) (hc : ac.length ≤ c) (hm : c ≤ maxLen) (b2 : -9223372036854775808 ≤ a) (b3 : a ≤ 9223372036854775807) (b4 : -9223372036854775808 ≤ b) (b5 : b ≤ 9223372036854775807) (b6 : -9223372036854775808 ≤ cl) (b7 : cl ≤ 9223372036854775807) :
    Calls Tryd.prog 6 #[.int .i64 n, .slice A ac.length c, .int .i64 a, .int .i64 b, .int .i64 cl] w (RetV w (.bool true)) := by
  have HGA : Hid (∀ w', Below w.heap.size w w' → Calls Tryd.prog 17 #[.slice A ac.length c] w' (RetV w' (.bool (grA ac)))) := Lib.hid (fun w' hb => great28_any A c ac w' (hr.below hb) (fun x hx => (hok x hx).below hb))
  cases hg : grA ac
  · rw [hg] at HGA
    cases h15 : decide ((150 : Int) < ac.length)
    · obtain ⟨hgl0, hgl⟩ := grA_no hg
      have hl150 : ac.length ≤ 150 := by have := of_decide_eq_false h15; omega
      obtain ⟨N, hN, hN3⟩ : ∃ N : Nat, wrap64 ((IntKind.u64.wrap n).tmod 3) = (N : Int) ∧ N < 3 := mod_small n 3 (by decide) (by decide)
      obtain ⟨C, hC, hC4⟩ : ∃ N : Nat, wrap64 ((IntKind.u64.wrap cl).tmod 4) = (N : Int) ∧ N < 4 := mod_small cl 4 (by decide) (by decide)
      obtain ⟨m, hm1⟩ : ∃ m : Nat, m = 3 + 2 * N := ⟨_, rfl⟩
      have hn' : (3 : Int) + 2 * (N : Int) = (m : Int) := by omega
      have hcn : crowdB (m : Int) = true := by
        have : m = 3 ∨ m = 5 ∨ m = 7 := by omega
        rcases this with h | h | h <;> rw [h] <;> decide
      have hm0 : ¬ m = 0 := by omega
      have hum : IntKind.u64.wrap (m : Int) = (m : Int) := IntWalk.u64_in _ (by omega)
      obtain ⟨x, hx, hxm⟩ := mod_small a m (by omega) (by omega)
      obtain ⟨y, hy, hym⟩ := mod_small b m (by omega) (by omega)
      obtain ⟨z, hz⟩ : ∃ z : Int, -1 - (C : Int) = z := ⟨_, rfl⟩
      have hz4 : -4 ≤ z ∧ z < 0 := by omega
      have hm7 : m ≤ 7 := by omega
      clear hm1
      go_enter Tryd.func6, Tryd.ntmps6
      go_wp2_with (first | ((with_reducible refine Hp.allo H ?_); refine ⟨rfl, ?_⟩; refine ⟨_, z_look rfl, ?_⟩; (clear H; intro g1 w1 H); go_frame) | ((with_reducible refine Hp.ld H ?_); refine ⟨rfl, ?_⟩; refine ⟨c_look rfl, ?_⟩; refine ⟨_, _, rfl, ?_⟩; ((repeat ((fail_if_success refine ⟨_, _, _, .z, ?_⟩); refine hs ?_)); refine ⟨_, _, _, .z, ?_⟩); refine ⟨_, rfl, ?_⟩; go_frame) | ((with_reducible refine Hp.lda H ?_); refine ⟨rfl, by kernel_rfl, ?_⟩; refine ⟨_, s_look rfl, ?_⟩; refine ⟨_, rfl, ?_⟩; ((repeat ((fail_if_success refine ⟨_, _, _, .z, ?_⟩); refine hs ?_)); refine ⟨_, _, _, .z, ?_⟩); refine ⟨rfl, ?_⟩; go_frame) | ((with_reducible refine Hp.lds H ?_); refine ⟨rfl, by kernel_rfl, ?_⟩; refine ⟨_, s_look rfl, ?_⟩; refine ⟨_, _, rfl, ?_⟩; ((repeat ((fail_if_success refine ⟨_, _, _, .z, ?_⟩); refine hs ?_)); refine ⟨_, _, _, .z, ?_⟩); (first | refine ⟨[_, _], rfl, rfl, ?_⟩ | refine ⟨[_, _, _, _], rfl, rfl, ?_⟩ | refine ⟨[_, _, _, _, _, _, _], rfl, rfl, ?_⟩ | refine ⟨[_, _, _], rfl, rfl, ?_⟩ | (fail)); go_frame) | ((with_reducible refine Hp.sta H ?_); refine ⟨rfl, ?_⟩; refine ⟨_, s_look rfl, ?_⟩; refine ⟨_, rfl, _, rfl, rfl, ?_⟩; ((repeat ((fail_if_success refine ⟨_, _, _, .z, ?_⟩); refine hs ?_)); refine ⟨_, _, _, .z, ?_⟩); refine ⟨rfl, rfl, ?_⟩; (clear H; intro w1 H; simp only [List.set] at H); go_frame) | ((with_reducible refine Hp.str H ?_); refine ⟨rfl, ?_⟩; refine ⟨_, s_look rfl, ?_⟩; refine ⟨_, _, rfl, _, rfl, rfl, ?_⟩; ((repeat ((fail_if_success refine ⟨_, _, _, .z, ?_⟩); refine hs ?_)); refine ⟨_, _, _, .z, ?_⟩); refine ⟨rfl, _, rfl, _, rfl, Nat.le_of_ble_eq_true rfl, ?_⟩; (clear H; intro w1 H; simp only [List.set] at H); go_frame) | ((with_reducible refine Hp.bdl H ?_); (fail); go_frame) | ((with_reducible refine (awake28_any _ hF).mono ?_); rintro _ wA ⟨rfl, hbA⟩) | ((with_reducible refine (HGA.out _ hbA).mono ?_); rintro _ wB ⟨rfl, hbB⟩) | ((with_reducible refine (nnew_yes (m : Int) _ hcn).mono ?_); rintro _ wD ⟨g, rfl, H0⟩; have HN := NetZ.new H0; clear H0))
      have H := Hp.nil wB
      ((with_reducible refine wp_region_hpK H (by kernel_rfl) (by kernel_rfl) ?_); intro _ KQ hKQ; (repeat (first | go_big_quiet_skip | ((with_reducible refine hq_ld ?_); refine ⟨rfl, ?_⟩; refine ⟨c_look rfl, ?_⟩; refine ⟨_, _, rfl, ?_⟩; ((repeat ((fail_if_success refine ⟨_, _, _, .z, ?_⟩); refine hs ?_)); refine ⟨_, _, _, .z, ?_⟩); refine ⟨_, rfl, ?_⟩; go_frame) | ((with_reducible refine hq_lda ?_); refine ⟨rfl, by kernel_rfl, ?_⟩; refine ⟨_, s_look rfl, ?_⟩; refine ⟨_, rfl, ?_⟩; ((repeat ((fail_if_success refine ⟨_, _, _, .z, ?_⟩); refine hs ?_)); refine ⟨_, _, _, .z, ?_⟩); refine ⟨rfl, ?_⟩; go_frame) | ((with_reducible refine hq_lds ?_); refine ⟨rfl, by kernel_rfl, ?_⟩; refine ⟨_, s_look rfl, ?_⟩; refine ⟨_, _, rfl, ?_⟩; ((repeat ((fail_if_success refine ⟨_, _, _, .z, ?_⟩); refine hs ?_)); refine ⟨_, _, _, .z, ?_⟩); (first | refine ⟨[_, _], rfl, rfl, ?_⟩ | refine ⟨[_, _, _, _], rfl, rfl, ?_⟩ | refine ⟨[_, _, _, _, _, _, _], rfl, rfl, ?_⟩ | refine ⟨[_, _, _], rfl, rfl, ?_⟩ | (fail)); go_frame) | ((with_reducible refine hq_bdl ?_); (fail); go_frame) | (fail) | go_big_quiet_step ((fail)))); (with_reducible refine wpQuiet_nil (hKQ _ ?_)); clear hKQ; clear KQ H; intro w1 H)
      have hbC := H.below
      clear H
      obtain ⟨wC, rfl⟩ : ∃ v, v = w1 := ⟨_, rfl⟩
      have hFC : FldW wC := ((hF.below hbA).below hbB).below hbC
      have hrC : RdR acC 30 wC A ac := ((hr.below hbA).below hbB).below hbC
      have hokC : ∀ x ∈ ac, AcOk wC x := fun x hx => (((hok x hx).below hbA).below hbB).below hbC
      have hbW : Below w.heap.size w wC := (hbA.trans (hbB.mono hbA.size)).trans (hbC.mono (Nat.le_trans hbA.size hbB.size))
      clear hr hok hF hbA hbB hbC HGA
      cases hxy : ((x : Int) == (y : Int))
      · have hne : ¬ x = y := by
          have := beq_eq_false_iff_ne.1 hxy
          omega
        have hp : pairB (m : Int) (x : Int) (y : Int) = true := by
          simp only [pairB, Bool.and_eq_true, decide_eq_true_eq, bne_iff_ne]
          omega
        have hinv0 := Inv.first hp (by omega)
        have hcR : ncutR (m : Int) (x : Int) (y : Int) = 0 := by unfold ncutR; rw [if_pos hp]
        have hcL : ncutL (m : Int) cut0 [] (x : Int) (y : Int) = [] := by unfold ncutL; rw [if_pos hp]; rfl
        obtain ⟨cut1, hc1⟩ : ∃ c, ncutC (m : Int) cut0 (x : Int) (y : Int) = c := ⟨_, rfl⟩
        rw [hc1] at hinv0
        have HC1 := Lib.hid hc1
        have HCL := Lib.hid hcL
        have HCR := Lib.hid hcR
        clear hc1 hcL hcR hp
        go_wp2_with (first | ((with_reducible refine Hp.allo H ?_); refine ⟨rfl, ?_⟩; refine ⟨_, z_look rfl, ?_⟩; (clear H; intro g1 w1 H); go_frame) | ((with_reducible refine Hp.ld H ?_); refine ⟨rfl, ?_⟩; refine ⟨c_look rfl, ?_⟩; refine ⟨_, _, rfl, ?_⟩; ((repeat ((fail_if_success refine ⟨_, _, _, .z, ?_⟩); refine hs ?_)); refine ⟨_, _, _, .z, ?_⟩); refine ⟨_, rfl, ?_⟩; go_frame) | ((with_reducible refine Hp.lda H ?_); refine ⟨rfl, by kernel_rfl, ?_⟩; refine ⟨_, s_look rfl, ?_⟩; refine ⟨_, rfl, ?_⟩; ((repeat ((fail_if_success refine ⟨_, _, _, .z, ?_⟩); refine hs ?_)); refine ⟨_, _, _, .z, ?_⟩); refine ⟨rfl, ?_⟩; go_frame) | ((with_reducible refine Hp.lds H ?_); refine ⟨rfl, by kernel_rfl, ?_⟩; refine ⟨_, s_look rfl, ?_⟩; refine ⟨_, _, rfl, ?_⟩; ((repeat ((fail_if_success refine ⟨_, _, _, .z, ?_⟩); refine hs ?_)); refine ⟨_, _, _, .z, ?_⟩); (first | refine ⟨[_, _], rfl, rfl, ?_⟩ | refine ⟨[_, _, _, _], rfl, rfl, ?_⟩ | refine ⟨[_, _, _, _, _, _, _], rfl, rfl, ?_⟩ | refine ⟨[_, _, _], rfl, rfl, ?_⟩ | (fail)); go_frame) | ((with_reducible refine Hp.sta H ?_); refine ⟨rfl, ?_⟩; refine ⟨_, s_look rfl, ?_⟩; refine ⟨_, rfl, _, rfl, rfl, ?_⟩; ((repeat ((fail_if_success refine ⟨_, _, _, .z, ?_⟩); refine hs ?_)); refine ⟨_, _, _, .z, ?_⟩); refine ⟨rfl, rfl, ?_⟩; (clear H; intro w1 H; simp only [List.set] at H); go_frame) | ((with_reducible refine Hp.str H ?_); refine ⟨rfl, ?_⟩; refine ⟨_, s_look rfl, ?_⟩; refine ⟨_, _, rfl, _, rfl, rfl, ?_⟩; ((repeat ((fail_if_success refine ⟨_, _, _, .z, ?_⟩); refine hs ?_)); refine ⟨_, _, _, .z, ?_⟩); refine ⟨rfl, _, rfl, _, rfl, Nat.le_of_ble_eq_true rfl, ?_⟩; (clear H; intro w1 H; simp only [List.set] at H); go_frame) | ((with_reducible refine Hp.bdl H ?_); (fail); go_frame) | ((with_reducible refine (nnew_yes (m : Int) _ hcn).mono ?_); rintro _ wD ⟨g, rfl, H0⟩; have HN := NetZ.new H0; clear H0) | ((with_reducible refine (ncut_v HN hcn HC1.out HCL.out HCR.out).mono ?_); rintro _ w1 ⟨rfl, Z2, hZs, HN2⟩; clear HN hZs; (have HN := HN2); clear HN2))
        have hat : CuRel wC g m x y ac.length (.int .i64 (0 : Nat)) w1 := ⟨0, cut1, [], _, rfl, Nat.zero_le _, Nat.le_refl _, hinv0, HN⟩
        clear HN hinv0 HC1 HCL HCR hN hC hx hy hz hg hum hn'
        go_loopw [13] (fun v wr => CuRel wC g m x y ac.length v wr) (fun v _ => ac.length - (intOf v).toNat)
        case atStart => exact hat
        case round =>
          clear hat
          obtain ⟨i, cut, cs, Z, rfl, hi, hl, hI, HN⟩ := hrel
          by_cases hlt : i < ac.length
          · obtain ⟨bA, oA, rfl, hk0, hrow, hka, hkb⟩ := ac_cell hrC hlt
            obtain ⟨hk8, hmn, hmr, haI, hbI⟩ := hokC ac[i] (List.getElem_mem hlt)
            have hgr := grM_no (hgl ac[i] (List.getElem_mem hlt))
            have hox : OkX ⟨ac[i].x.m, ac[i].x.rs, ac[i].x.l⟩ := ⟨hmr.n1, hmr.n2, hmn, hmr.ok, Nat.le_trans (hmr.n1 ▸ hgr.2.1) (by decide), Nat.le_trans (hmr.n2 ▸ hgr.1) (by decide)⟩
            have hi1 : IntKind.i64.wrap ((i : Int) + 1) = ((i + 1 : Nat) : Int) := IntWalk.i64_in _ (by omega)
            have haM : ac[i].a ≤ 9223372036854775807 := haI.2
            obtain ⟨K, hK⟩ : ∃ K : Nat, ac[i].k = K := ⟨ac[i].k.toNat, by omega⟩
            obtain ⟨q, hq⟩ : ∃ q : Nat, K % 10 = q := ⟨_, rfl⟩
            have hq1 : (K : Int).tmod 10 = (q : Int) := by rw [← hq]; rfl
            have hq10 : q < 10 := by omega
            have hqw : IntKind.u8.wrap (q : Int) = (q : Int) := IntWalk.u8_in _ (by omega)
            rw [hK] at hk0
            clear hK hq hgr hmn haI hbI hk8
            have hkind : q < 4 ∨ (q = 4 ∨ q = 6) ∨ q = 5 ∨ q = 7 ∨ (q = 8 ∨ q = 9) := by omega
            rcases hkind with hq4 | hq4 | hq4 | hq4 | hq4
            · obtain ⟨hI3, hl3⟩ := hI.send (cx ⟨ac[i].x.m, ac[i].x.rs, ac[i].x.l⟩)
              have hI4 := hI3
              obtain ⟨hab, _⟩ := hI4
              have hba : cutB (m : Int) cut (y : Int) (x : Int) = true := (cut_comm _ _ _ _).trans hab
              obtain ⟨cs2, hcs2⟩ : ∃ c, nsndL (m : Int) cut cs (cx ⟨ac[i].x.m, ac[i].x.rs, ac[i].x.l⟩) = c := ⟨_, rfl⟩
              rw [hcs2] at hI3 hl3
              have HCS := Lib.hid hcs2
              clear hcs2 hI
              obtain rfl | rfl | rfl | rfl : q = 0 ∨ q = 1 ∨ q = 2 ∨ q = 3 := by omega
              all_goals as_aux_lemma =>
                go_wp2_with (first | ((with_reducible refine Hp.allo H ?_); refine ⟨rfl, ?_⟩; refine ⟨_, z_look rfl, ?_⟩; (clear H; intro g1 w1 H); go_frame) | ((with_reducible refine Hp.ld H ?_); refine ⟨rfl, ?_⟩; refine ⟨c_look rfl, ?_⟩; refine ⟨_, _, rfl, ?_⟩; ((repeat ((fail_if_success refine ⟨_, _, _, .z, ?_⟩); refine hs ?_)); refine ⟨_, _, _, .z, ?_⟩); refine ⟨_, rfl, ?_⟩; go_frame) | ((with_reducible refine Hp.lda H ?_); refine ⟨rfl, by kernel_rfl, ?_⟩; refine ⟨_, s_look rfl, ?_⟩; refine ⟨_, rfl, ?_⟩; ((repeat ((fail_if_success refine ⟨_, _, _, .z, ?_⟩); refine hs ?_)); refine ⟨_, _, _, .z, ?_⟩); refine ⟨rfl, ?_⟩; go_frame) | ((with_reducible refine Hp.lds H ?_); refine ⟨rfl, by kernel_rfl, ?_⟩; refine ⟨_, s_look rfl, ?_⟩; refine ⟨_, _, rfl, ?_⟩; ((repeat ((fail_if_success refine ⟨_, _, _, .z, ?_⟩); refine hs ?_)); refine ⟨_, _, _, .z, ?_⟩); (first | refine ⟨[_, _], rfl, rfl, ?_⟩ | refine ⟨[_, _, _, _], rfl, rfl, ?_⟩ | refine ⟨[_, _, _, _, _, _, _], rfl, rfl, ?_⟩ | refine ⟨[_, _, _], rfl, rfl, ?_⟩ | (fail)); go_frame) | ((with_reducible refine Hp.sta H ?_); refine ⟨rfl, ?_⟩; refine ⟨_, s_look rfl, ?_⟩; refine ⟨_, rfl, _, rfl, rfl, ?_⟩; ((repeat ((fail_if_success refine ⟨_, _, _, .z, ?_⟩); refine hs ?_)); refine ⟨_, _, _, .z, ?_⟩); refine ⟨rfl, rfl, ?_⟩; (clear H; intro w1 H; simp only [List.set] at H); go_frame) | ((with_reducible refine Hp.str H ?_); refine ⟨rfl, ?_⟩; refine ⟨_, s_look rfl, ?_⟩; refine ⟨_, _, rfl, _, rfl, rfl, ?_⟩; ((repeat ((fail_if_success refine ⟨_, _, _, .z, ?_⟩); refine hs ?_)); refine ⟨_, _, _, .z, ?_⟩); refine ⟨rfl, _, rfl, _, rfl, Nat.le_of_ble_eq_true rfl, ?_⟩; (clear H; intro w1 H; simp only [List.set] at H); go_frame) | ((with_reducible refine Hp.bdl H ?_); (fail); go_frame) | ((with_reducible refine NetZ.ldo HN ?_); refine ⟨rfl, c_look rfl, _, rfl, .int .u8 (K : Int), hk0, ?_⟩; go_frame) | ((with_reducible refine NetZ.ldrO HN ?_); refine ⟨rfl, by kernel_rfl, _, _, rfl, mgC ac[i].x.m, hrow, s_Msg, ?_⟩; go_frame) | ((with_reducible refine (nsend_o HN hFC hcn (MgS.old hmr _) hox).mono ?_); (rw [HCS.out]); rintro _ w1 ⟨rfl, Z2, hZs, HN2⟩; clear HN hZs; (have HN := HN2); clear HN2) | ((with_reducible refine (niscut_o (r := true) HN hcn hab).mono ?_); rintro _ w1 ⟨rfl, Z2, hZs, HN2⟩; clear HN hZs; (have HN := HN2); clear HN2) | ((with_reducible refine (niscut_o (r := true) HN hcn hba).mono ?_); rintro _ w1 ⟨rfl, Z2, hZs, HN2⟩; clear HN hZs; (have HN := HN2); clear HN2) | ((with_reducible refine (nall_o HN hcn).mono ?_); rintro _ wE ⟨Ao, co, out, N1, Z3, rfl, ho, hN1, hZs, HN2⟩; clear HN hZs; (have HN := HN2); clear HN2))
                have hatI : InRel out.length wE (.int .i64 (0 : Nat)) wE := ⟨0, rfl, Nat.zero_le _, rfl⟩
                go_loopw [15] (fun v wr => InRel out.length wE v wr) (fun v _ => out.length - (intOf v).toNat)
                case atStart => exact hatI
                case round =>
                  clear hatI
                  obtain ⟨k, rfl, hk, hwr⟩ := hrel
                  subst hwr
                  by_cases hkl : k < out.length
                  · obtain ⟨gO, rfl, hf⟩ := HN.fld hkl
                    have hfr := hf 1 _ rfl
                    have hto := hf 2 _ rfl
                    clear hf
                    have hk2 : IntKind.i64.wrap ((k : Int) + 1) = ((k + 1 : Nat) : Int) := IntWalk.i64_in _ (by have := HN.len; rw [← ho, List.length_map] at this; omega)
                    obtain ⟨n1, n2⟩ := hI3.not (ho ▸ List.mem_map_of_mem (f := cx) (List.getElem_mem hkl))
                    replace n1 : ¬ (out[k].m.fr = (x : Int) ∧ out[k].m.to = (y : Int)) := n1
                    replace n2 : ¬ (out[k].m.fr = (y : Int) ∧ out[k].m.to = (x : Int)) := n2
                    have hch : ((out[k].m.fr == (x : Int)) = true ∧ (out[k].m.to == (y : Int)) = false ∧ (out[k].m.fr == (y : Int)) = false) ∨ ((out[k].m.fr == (x : Int)) = false ∧ (out[k].m.fr == (y : Int)) = true ∧ (out[k].m.to == (x : Int)) = false) ∨ ((out[k].m.fr == (x : Int)) = false ∧ (out[k].m.fr == (y : Int)) = false) := by
                      simp only [beq_iff_eq, beq_eq_false_iff_ne]
                      omega
                    clear n1 n2
                    rcases hch with ⟨d1, d2, d3⟩ | ⟨d1, d2, d3⟩ | ⟨d1, d2⟩
                    all_goals
                      go_wp2_with (first | ((with_reducible refine Hp.allo H ?_); refine ⟨rfl, ?_⟩; refine ⟨_, z_look rfl, ?_⟩; (clear H; intro g1 w1 H); go_frame) | ((with_reducible refine Hp.ld H ?_); refine ⟨rfl, ?_⟩; refine ⟨c_look rfl, ?_⟩; refine ⟨_, _, rfl, ?_⟩; ((repeat ((fail_if_success refine ⟨_, _, _, .z, ?_⟩); refine hs ?_)); refine ⟨_, _, _, .z, ?_⟩); refine ⟨_, rfl, ?_⟩; go_frame) | ((with_reducible refine Hp.lda H ?_); refine ⟨rfl, by kernel_rfl, ?_⟩; refine ⟨_, s_look rfl, ?_⟩; refine ⟨_, rfl, ?_⟩; ((repeat ((fail_if_success refine ⟨_, _, _, .z, ?_⟩); refine hs ?_)); refine ⟨_, _, _, .z, ?_⟩); refine ⟨rfl, ?_⟩; go_frame) | ((with_reducible refine Hp.lds H ?_); refine ⟨rfl, by kernel_rfl, ?_⟩; refine ⟨_, s_look rfl, ?_⟩; refine ⟨_, _, rfl, ?_⟩; ((repeat ((fail_if_success refine ⟨_, _, _, .z, ?_⟩); refine hs ?_)); refine ⟨_, _, _, .z, ?_⟩); (first | refine ⟨[_, _], rfl, rfl, ?_⟩ | refine ⟨[_, _, _, _], rfl, rfl, ?_⟩ | refine ⟨[_, _, _, _, _, _, _], rfl, rfl, ?_⟩ | refine ⟨[_, _, _], rfl, rfl, ?_⟩ | (fail)); go_frame) | ((with_reducible refine Hp.sta H ?_); refine ⟨rfl, ?_⟩; refine ⟨_, s_look rfl, ?_⟩; refine ⟨_, rfl, _, rfl, rfl, ?_⟩; ((repeat ((fail_if_success refine ⟨_, _, _, .z, ?_⟩); refine hs ?_)); refine ⟨_, _, _, .z, ?_⟩); refine ⟨rfl, rfl, ?_⟩; (clear H; intro w1 H; simp only [List.set] at H); go_frame) | ((with_reducible refine Hp.str H ?_); refine ⟨rfl, ?_⟩; refine ⟨_, s_look rfl, ?_⟩; refine ⟨_, _, rfl, _, rfl, rfl, ?_⟩; ((repeat ((fail_if_success refine ⟨_, _, _, .z, ?_⟩); refine hs ?_)); refine ⟨_, _, _, .z, ?_⟩); refine ⟨rfl, _, rfl, _, rfl, Nat.le_of_ble_eq_true rfl, ?_⟩; (clear H; intro w1 H; simp only [List.set] at H); go_frame) | ((with_reducible refine Hp.bdl H ?_); (fail); go_frame) | ((with_reducible refine wl_ldc ?_); refine ⟨rfl, c_look rfl, _, rfl, .int .i64 out[k].m.fr, hfr, ?_⟩; go_frame) | ((with_reducible refine wl_ldc ?_); refine ⟨rfl, c_look rfl, _, rfl, .int .i64 out[k].m.to, hto, ?_⟩; go_frame))
                      go_roundw
                      case rel => exact ⟨k + 1, rfl, hkl, rfl⟩
                      case measure => show out.length - (k + 1) < out.length - k; omega
                  · obtain rfl : k = out.length := by omega
                    have hjj : decide ((out.length : Int) < (out.length : Int)) = false := decide_eq_false (by omega)
                    go_wp2_with (first | ((with_reducible refine Hp.allo H ?_); refine ⟨rfl, ?_⟩; refine ⟨_, z_look rfl, ?_⟩; (clear H; intro g1 w1 H); go_frame) | ((with_reducible refine Hp.ld H ?_); refine ⟨rfl, ?_⟩; refine ⟨c_look rfl, ?_⟩; refine ⟨_, _, rfl, ?_⟩; ((repeat ((fail_if_success refine ⟨_, _, _, .z, ?_⟩); refine hs ?_)); refine ⟨_, _, _, .z, ?_⟩); refine ⟨_, rfl, ?_⟩; go_frame) | ((with_reducible refine Hp.lda H ?_); refine ⟨rfl, by kernel_rfl, ?_⟩; refine ⟨_, s_look rfl, ?_⟩; refine ⟨_, rfl, ?_⟩; ((repeat ((fail_if_success refine ⟨_, _, _, .z, ?_⟩); refine hs ?_)); refine ⟨_, _, _, .z, ?_⟩); refine ⟨rfl, ?_⟩; go_frame) | ((with_reducible refine Hp.lds H ?_); refine ⟨rfl, by kernel_rfl, ?_⟩; refine ⟨_, s_look rfl, ?_⟩; refine ⟨_, _, rfl, ?_⟩; ((repeat ((fail_if_success refine ⟨_, _, _, .z, ?_⟩); refine hs ?_)); refine ⟨_, _, _, .z, ?_⟩); (first | refine ⟨[_, _], rfl, rfl, ?_⟩ | refine ⟨[_, _, _, _], rfl, rfl, ?_⟩ | refine ⟨[_, _, _, _, _, _, _], rfl, rfl, ?_⟩ | refine ⟨[_, _, _], rfl, rfl, ?_⟩ | (fail)); go_frame) | ((with_reducible refine Hp.sta H ?_); refine ⟨rfl, ?_⟩; refine ⟨_, s_look rfl, ?_⟩; refine ⟨_, rfl, _, rfl, rfl, ?_⟩; ((repeat ((fail_if_success refine ⟨_, _, _, .z, ?_⟩); refine hs ?_)); refine ⟨_, _, _, .z, ?_⟩); refine ⟨rfl, rfl, ?_⟩; (clear H; intro w1 H; simp only [List.set] at H); go_frame) | ((with_reducible refine Hp.str H ?_); refine ⟨rfl, ?_⟩; refine ⟨_, s_look rfl, ?_⟩; refine ⟨_, _, rfl, _, rfl, rfl, ?_⟩; ((repeat ((fail_if_success refine ⟨_, _, _, .z, ?_⟩); refine hs ?_)); refine ⟨_, _, _, .z, ?_⟩); refine ⟨rfl, _, rfl, _, rfl, Nat.le_of_ble_eq_true rfl, ?_⟩; (clear H; intro w1 H; simp only [List.set] at H); go_frame) | ((with_reducible refine Hp.bdl H ?_); (fail); go_frame) | (fail))
                    go_roundw
                    case rel => exact ⟨i + 1, cut, cs2, _, rfl, hlt, by omega, hI3, HN.tuck (F1 := mwI Ao co out :: N1)⟩
                    case measure => show ac.length - (i + 1) < ac.length - i; omega
            · obtain ⟨hI3, hl3⟩ := hI.take ac[i].a
              have hI4 := hI3
              obtain ⟨hab, _⟩ := hI4
              have hba : cutB (m : Int) cut (y : Int) (x : Int) = true := (cut_comm _ _ _ _).trans hab
              obtain ⟨cs2, hcs2⟩ : ∃ c, ntakL cs ac[i].a = c := ⟨_, rfl⟩
              rw [hcs2] at hI3 hl3
              have HCS := Lib.hid hcs2
              clear hcs2 hI
              obtain rfl | rfl : q = 4 ∨ q = 6 := by omega
              all_goals as_aux_lemma =>
                go_wp2_with (first | ((with_reducible refine Hp.allo H ?_); refine ⟨rfl, ?_⟩; refine ⟨_, z_look rfl, ?_⟩; (clear H; intro g1 w1 H); go_frame) | ((with_reducible refine Hp.ld H ?_); refine ⟨rfl, ?_⟩; refine ⟨c_look rfl, ?_⟩; refine ⟨_, _, rfl, ?_⟩; ((repeat ((fail_if_success refine ⟨_, _, _, .z, ?_⟩); refine hs ?_)); refine ⟨_, _, _, .z, ?_⟩); refine ⟨_, rfl, ?_⟩; go_frame) | ((with_reducible refine Hp.lda H ?_); refine ⟨rfl, by kernel_rfl, ?_⟩; refine ⟨_, s_look rfl, ?_⟩; refine ⟨_, rfl, ?_⟩; ((repeat ((fail_if_success refine ⟨_, _, _, .z, ?_⟩); refine hs ?_)); refine ⟨_, _, _, .z, ?_⟩); refine ⟨rfl, ?_⟩; go_frame) | ((with_reducible refine Hp.lds H ?_); refine ⟨rfl, by kernel_rfl, ?_⟩; refine ⟨_, s_look rfl, ?_⟩; refine ⟨_, _, rfl, ?_⟩; ((repeat ((fail_if_success refine ⟨_, _, _, .z, ?_⟩); refine hs ?_)); refine ⟨_, _, _, .z, ?_⟩); (first | refine ⟨[_, _], rfl, rfl, ?_⟩ | refine ⟨[_, _, _, _], rfl, rfl, ?_⟩ | refine ⟨[_, _, _, _, _, _, _], rfl, rfl, ?_⟩ | refine ⟨[_, _, _], rfl, rfl, ?_⟩ | (fail)); go_frame) | ((with_reducible refine Hp.sta H ?_); refine ⟨rfl, ?_⟩; refine ⟨_, s_look rfl, ?_⟩; refine ⟨_, rfl, _, rfl, rfl, ?_⟩; ((repeat ((fail_if_success refine ⟨_, _, _, .z, ?_⟩); refine hs ?_)); refine ⟨_, _, _, .z, ?_⟩); refine ⟨rfl, rfl, ?_⟩; (clear H; intro w1 H; simp only [List.set] at H); go_frame) | ((with_reducible refine Hp.str H ?_); refine ⟨rfl, ?_⟩; refine ⟨_, s_look rfl, ?_⟩; refine ⟨_, _, rfl, _, rfl, rfl, ?_⟩; ((repeat ((fail_if_success refine ⟨_, _, _, .z, ?_⟩); refine hs ?_)); refine ⟨_, _, _, .z, ?_⟩); refine ⟨rfl, _, rfl, _, rfl, Nat.le_of_ble_eq_true rfl, ?_⟩; (clear H; intro w1 H; simp only [List.set] at H); go_frame) | ((with_reducible refine Hp.bdl H ?_); (fail); go_frame) | ((with_reducible refine NetZ.ldo HN ?_); refine ⟨rfl, c_look rfl, _, rfl, .int .u8 (K : Int), hk0, ?_⟩; go_frame) | ((with_reducible refine NetZ.ldo HN ?_); refine ⟨rfl, c_look rfl, _, rfl, .int .i64 ac[i].a, hka, ?_⟩; go_frame) | ((with_reducible refine (ndrop_v HN hcn haM HCS.out rfl).mono ?_); rintro _ w1 ⟨rfl, Z2, hZs, HN2⟩; clear HN hZs; (have HN := HN2); clear HN2) | ((with_reducible refine (niscut_o (r := true) HN hcn hab).mono ?_); rintro _ w1 ⟨rfl, Z2, hZs, HN2⟩; clear HN hZs; (have HN := HN2); clear HN2) | ((with_reducible refine (niscut_o (r := true) HN hcn hba).mono ?_); rintro _ w1 ⟨rfl, Z2, hZs, HN2⟩; clear HN hZs; (have HN := HN2); clear HN2) | ((with_reducible refine (nall_o HN hcn).mono ?_); rintro _ wE ⟨Ao, co, out, N1, Z3, rfl, ho, hN1, hZs, HN2⟩; clear HN hZs; (have HN := HN2); clear HN2))
                have hatI : InRel out.length wE (.int .i64 (0 : Nat)) wE := ⟨0, rfl, Nat.zero_le _, rfl⟩
                go_loopw [15] (fun v wr => InRel out.length wE v wr) (fun v _ => out.length - (intOf v).toNat)
                case atStart => exact hatI
                case round =>
                  clear hatI
                  obtain ⟨k, rfl, hk, hwr⟩ := hrel
                  subst hwr
                  by_cases hkl : k < out.length
                  · obtain ⟨gO, rfl, hf⟩ := HN.fld hkl
                    have hfr := hf 1 _ rfl
                    have hto := hf 2 _ rfl
                    clear hf
                    have hk2 : IntKind.i64.wrap ((k : Int) + 1) = ((k + 1 : Nat) : Int) := IntWalk.i64_in _ (by have := HN.len; rw [← ho, List.length_map] at this; omega)
                    obtain ⟨n1, n2⟩ := hI3.not (ho ▸ List.mem_map_of_mem (f := cx) (List.getElem_mem hkl))
                    replace n1 : ¬ (out[k].m.fr = (x : Int) ∧ out[k].m.to = (y : Int)) := n1
                    replace n2 : ¬ (out[k].m.fr = (y : Int) ∧ out[k].m.to = (x : Int)) := n2
                    have hch : ((out[k].m.fr == (x : Int)) = true ∧ (out[k].m.to == (y : Int)) = false ∧ (out[k].m.fr == (y : Int)) = false) ∨ ((out[k].m.fr == (x : Int)) = false ∧ (out[k].m.fr == (y : Int)) = true ∧ (out[k].m.to == (x : Int)) = false) ∨ ((out[k].m.fr == (x : Int)) = false ∧ (out[k].m.fr == (y : Int)) = false) := by
                      simp only [beq_iff_eq, beq_eq_false_iff_ne]
                      omega
                    clear n1 n2
                    rcases hch with ⟨d1, d2, d3⟩ | ⟨d1, d2, d3⟩ | ⟨d1, d2⟩
                    all_goals
                      go_wp2_with (first | ((with_reducible refine Hp.allo H ?_); refine ⟨rfl, ?_⟩; refine ⟨_, z_look rfl, ?_⟩; (clear H; intro g1 w1 H); go_frame) | ((with_reducible refine Hp.ld H ?_); refine ⟨rfl, ?_⟩; refine ⟨c_look rfl, ?_⟩; refine ⟨_, _, rfl, ?_⟩; ((repeat ((fail_if_success refine ⟨_, _, _, .z, ?_⟩); refine hs ?_)); refine ⟨_, _, _, .z, ?_⟩); refine ⟨_, rfl, ?_⟩; go_frame) | ((with_reducible refine Hp.lda H ?_); refine ⟨rfl, by kernel_rfl, ?_⟩; refine ⟨_, s_look rfl, ?_⟩; refine ⟨_, rfl, ?_⟩; ((repeat ((fail_if_success refine ⟨_, _, _, .z, ?_⟩); refine hs ?_)); refine ⟨_, _, _, .z, ?_⟩); refine ⟨rfl, ?_⟩; go_frame) | ((with_reducible refine Hp.lds H ?_); refine ⟨rfl, by kernel_rfl, ?_⟩; refine ⟨_, s_look rfl, ?_⟩; refine ⟨_, _, rfl, ?_⟩; ((repeat ((fail_if_success refine ⟨_, _, _, .z, ?_⟩); refine hs ?_)); refine ⟨_, _, _, .z, ?_⟩); (first | refine ⟨[_, _], rfl, rfl, ?_⟩ | refine ⟨[_, _, _, _], rfl, rfl, ?_⟩ | refine ⟨[_, _, _, _, _, _, _], rfl, rfl, ?_⟩ | refine ⟨[_, _, _], rfl, rfl, ?_⟩ | (fail)); go_frame) | ((with_reducible refine Hp.sta H ?_); refine ⟨rfl, ?_⟩; refine ⟨_, s_look rfl, ?_⟩; refine ⟨_, rfl, _, rfl, rfl, ?_⟩; ((repeat ((fail_if_success refine ⟨_, _, _, .z, ?_⟩); refine hs ?_)); refine ⟨_, _, _, .z, ?_⟩); refine ⟨rfl, rfl, ?_⟩; (clear H; intro w1 H; simp only [List.set] at H); go_frame) | ((with_reducible refine Hp.str H ?_); refine ⟨rfl, ?_⟩; refine ⟨_, s_look rfl, ?_⟩; refine ⟨_, _, rfl, _, rfl, rfl, ?_⟩; ((repeat ((fail_if_success refine ⟨_, _, _, .z, ?_⟩); refine hs ?_)); refine ⟨_, _, _, .z, ?_⟩); refine ⟨rfl, _, rfl, _, rfl, Nat.le_of_ble_eq_true rfl, ?_⟩; (clear H; intro w1 H; simp only [List.set] at H); go_frame) | ((with_reducible refine Hp.bdl H ?_); (fail); go_frame) | ((with_reducible refine wl_ldc ?_); refine ⟨rfl, c_look rfl, _, rfl, .int .i64 out[k].m.fr, hfr, ?_⟩; go_frame) | ((with_reducible refine wl_ldc ?_); refine ⟨rfl, c_look rfl, _, rfl, .int .i64 out[k].m.to, hto, ?_⟩; go_frame))
                      go_roundw
                      case rel => exact ⟨k + 1, rfl, hkl, rfl⟩
                      case measure => show out.length - (k + 1) < out.length - k; omega
                  · obtain rfl : k = out.length := by omega
                    have hjj : decide ((out.length : Int) < (out.length : Int)) = false := decide_eq_false (by omega)
                    go_wp2_with (first | ((with_reducible refine Hp.allo H ?_); refine ⟨rfl, ?_⟩; refine ⟨_, z_look rfl, ?_⟩; (clear H; intro g1 w1 H); go_frame) | ((with_reducible refine Hp.ld H ?_); refine ⟨rfl, ?_⟩; refine ⟨c_look rfl, ?_⟩; refine ⟨_, _, rfl, ?_⟩; ((repeat ((fail_if_success refine ⟨_, _, _, .z, ?_⟩); refine hs ?_)); refine ⟨_, _, _, .z, ?_⟩); refine ⟨_, rfl, ?_⟩; go_frame) | ((with_reducible refine Hp.lda H ?_); refine ⟨rfl, by kernel_rfl, ?_⟩; refine ⟨_, s_look rfl, ?_⟩; refine ⟨_, rfl, ?_⟩; ((repeat ((fail_if_success refine ⟨_, _, _, .z, ?_⟩); refine hs ?_)); refine ⟨_, _, _, .z, ?_⟩); refine ⟨rfl, ?_⟩; go_frame) | ((with_reducible refine Hp.lds H ?_); refine ⟨rfl, by kernel_rfl, ?_⟩; refine ⟨_, s_look rfl, ?_⟩; refine ⟨_, _, rfl, ?_⟩; ((repeat ((fail_if_success refine ⟨_, _, _, .z, ?_⟩); refine hs ?_)); refine ⟨_, _, _, .z, ?_⟩); (first | refine ⟨[_, _], rfl, rfl, ?_⟩ | refine ⟨[_, _, _, _], rfl, rfl, ?_⟩ | refine ⟨[_, _, _, _, _, _, _], rfl, rfl, ?_⟩ | refine ⟨[_, _, _], rfl, rfl, ?_⟩ | (fail)); go_frame) | ((with_reducible refine Hp.sta H ?_); refine ⟨rfl, ?_⟩; refine ⟨_, s_look rfl, ?_⟩; refine ⟨_, rfl, _, rfl, rfl, ?_⟩; ((repeat ((fail_if_success refine ⟨_, _, _, .z, ?_⟩); refine hs ?_)); refine ⟨_, _, _, .z, ?_⟩); refine ⟨rfl, rfl, ?_⟩; (clear H; intro w1 H; simp only [List.set] at H); go_frame) | ((with_reducible refine Hp.str H ?_); refine ⟨rfl, ?_⟩; refine ⟨_, s_look rfl, ?_⟩; refine ⟨_, _, rfl, _, rfl, rfl, ?_⟩; ((repeat ((fail_if_success refine ⟨_, _, _, .z, ?_⟩); refine hs ?_)); refine ⟨_, _, _, .z, ?_⟩); refine ⟨rfl, _, rfl, _, rfl, Nat.le_of_ble_eq_true rfl, ?_⟩; (clear H; intro w1 H; simp only [List.set] at H); go_frame) | ((with_reducible refine Hp.bdl H ?_); (fail); go_frame) | (fail))
                    go_roundw
                    case rel => exact ⟨i + 1, cut, cs2, _, rfl, hlt, by omega, hI3, HN.tuck (F1 := mwI Ao co out :: N1)⟩
                    case measure => show ac.length - (i + 1) < ac.length - i; omega
            · obtain ⟨hI3, hl3⟩ := hI.copy ac[i].a
              have hI4 := hI3
              obtain ⟨hab, _⟩ := hI4
              have hba : cutB (m : Int) cut (y : Int) (x : Int) = true := (cut_comm _ _ _ _).trans hab
              obtain ⟨cs2, hcs2⟩ : ∃ c, ncpyL cs ac[i].a = c := ⟨_, rfl⟩
              rw [hcs2] at hI3 hl3
              have HCS := Lib.hid hcs2
              clear hcs2 hI
              subst hq4
              all_goals as_aux_lemma =>
                go_wp2_with (first | ((with_reducible refine Hp.allo H ?_); refine ⟨rfl, ?_⟩; refine ⟨_, z_look rfl, ?_⟩; (clear H; intro g1 w1 H); go_frame) | ((with_reducible refine Hp.ld H ?_); refine ⟨rfl, ?_⟩; refine ⟨c_look rfl, ?_⟩; refine ⟨_, _, rfl, ?_⟩; ((repeat ((fail_if_success refine ⟨_, _, _, .z, ?_⟩); refine hs ?_)); refine ⟨_, _, _, .z, ?_⟩); refine ⟨_, rfl, ?_⟩; go_frame) | ((with_reducible refine Hp.lda H ?_); refine ⟨rfl, by kernel_rfl, ?_⟩; refine ⟨_, s_look rfl, ?_⟩; refine ⟨_, rfl, ?_⟩; ((repeat ((fail_if_success refine ⟨_, _, _, .z, ?_⟩); refine hs ?_)); refine ⟨_, _, _, .z, ?_⟩); refine ⟨rfl, ?_⟩; go_frame) | ((with_reducible refine Hp.lds H ?_); refine ⟨rfl, by kernel_rfl, ?_⟩; refine ⟨_, s_look rfl, ?_⟩; refine ⟨_, _, rfl, ?_⟩; ((repeat ((fail_if_success refine ⟨_, _, _, .z, ?_⟩); refine hs ?_)); refine ⟨_, _, _, .z, ?_⟩); (first | refine ⟨[_, _], rfl, rfl, ?_⟩ | refine ⟨[_, _, _, _], rfl, rfl, ?_⟩ | refine ⟨[_, _, _, _, _, _, _], rfl, rfl, ?_⟩ | refine ⟨[_, _, _], rfl, rfl, ?_⟩ | (fail)); go_frame) | ((with_reducible refine Hp.sta H ?_); refine ⟨rfl, ?_⟩; refine ⟨_, s_look rfl, ?_⟩; refine ⟨_, rfl, _, rfl, rfl, ?_⟩; ((repeat ((fail_if_success refine ⟨_, _, _, .z, ?_⟩); refine hs ?_)); refine ⟨_, _, _, .z, ?_⟩); refine ⟨rfl, rfl, ?_⟩; (clear H; intro w1 H; simp only [List.set] at H); go_frame) | ((with_reducible refine Hp.str H ?_); refine ⟨rfl, ?_⟩; refine ⟨_, s_look rfl, ?_⟩; refine ⟨_, _, rfl, _, rfl, rfl, ?_⟩; ((repeat ((fail_if_success refine ⟨_, _, _, .z, ?_⟩); refine hs ?_)); refine ⟨_, _, _, .z, ?_⟩); refine ⟨rfl, _, rfl, _, rfl, Nat.le_of_ble_eq_true rfl, ?_⟩; (clear H; intro w1 H; simp only [List.set] at H); go_frame) | ((with_reducible refine Hp.bdl H ?_); (fail); go_frame) | ((with_reducible refine NetZ.ldo HN ?_); refine ⟨rfl, c_look rfl, _, rfl, .int .u8 (K : Int), hk0, ?_⟩; go_frame) | ((with_reducible refine NetZ.ldo HN ?_); refine ⟨rfl, c_look rfl, _, rfl, .int .i64 ac[i].a, hka, ?_⟩; go_frame) | ((with_reducible refine (ncopy_v HN hcn haM HCS.out rfl).mono ?_); rintro _ w1 ⟨rfl, Z2, hZs, HN2⟩; clear HN hZs; (have HN := HN2); clear HN2) | ((with_reducible refine (niscut_o (r := true) HN hcn hab).mono ?_); rintro _ w1 ⟨rfl, Z2, hZs, HN2⟩; clear HN hZs; (have HN := HN2); clear HN2) | ((with_reducible refine (niscut_o (r := true) HN hcn hba).mono ?_); rintro _ w1 ⟨rfl, Z2, hZs, HN2⟩; clear HN hZs; (have HN := HN2); clear HN2) | ((with_reducible refine (nall_o HN hcn).mono ?_); rintro _ wE ⟨Ao, co, out, N1, Z3, rfl, ho, hN1, hZs, HN2⟩; clear HN hZs; (have HN := HN2); clear HN2))
                have hatI : InRel out.length wE (.int .i64 (0 : Nat)) wE := ⟨0, rfl, Nat.zero_le _, rfl⟩
                go_loopw [15] (fun v wr => InRel out.length wE v wr) (fun v _ => out.length - (intOf v).toNat)
                case atStart => exact hatI
                case round =>
                  clear hatI
                  obtain ⟨k, rfl, hk, hwr⟩ := hrel
                  subst hwr
                  by_cases hkl : k < out.length
                  · obtain ⟨gO, rfl, hf⟩ := HN.fld hkl
                    have hfr := hf 1 _ rfl
                    have hto := hf 2 _ rfl
                    clear hf
                    have hk2 : IntKind.i64.wrap ((k : Int) + 1) = ((k + 1 : Nat) : Int) := IntWalk.i64_in _ (by have := HN.len; rw [← ho, List.length_map] at this; omega)
                    obtain ⟨n1, n2⟩ := hI3.not (ho ▸ List.mem_map_of_mem (f := cx) (List.getElem_mem hkl))
                    replace n1 : ¬ (out[k].m.fr = (x : Int) ∧ out[k].m.to = (y : Int)) := n1
                    replace n2 : ¬ (out[k].m.fr = (y : Int) ∧ out[k].m.to = (x : Int)) := n2
                    have hch : ((out[k].m.fr == (x : Int)) = true ∧ (out[k].m.to == (y : Int)) = false ∧ (out[k].m.fr == (y : Int)) = false) ∨ ((out[k].m.fr == (x : Int)) = false ∧ (out[k].m.fr == (y : Int)) = true ∧ (out[k].m.to == (x : Int)) = false) ∨ ((out[k].m.fr == (x : Int)) = false ∧ (out[k].m.fr == (y : Int)) = false) := by
                      simp only [beq_iff_eq, beq_eq_false_iff_ne]
                      omega
                    clear n1 n2
                    rcases hch with ⟨d1, d2, d3⟩ | ⟨d1, d2, d3⟩ | ⟨d1, d2⟩
                    all_goals
                      go_wp2_with (first | ((with_reducible refine Hp.allo H ?_); refine ⟨rfl, ?_⟩; refine ⟨_, z_look rfl, ?_⟩; (clear H; intro g1 w1 H); go_frame) | ((with_reducible refine Hp.ld H ?_); refine ⟨rfl, ?_⟩; refine ⟨c_look rfl, ?_⟩; refine ⟨_, _, rfl, ?_⟩; ((repeat ((fail_if_success refine ⟨_, _, _, .z, ?_⟩); refine hs ?_)); refine ⟨_, _, _, .z, ?_⟩); refine ⟨_, rfl, ?_⟩; go_frame) | ((with_reducible refine Hp.lda H ?_); refine ⟨rfl, by kernel_rfl, ?_⟩; refine ⟨_, s_look rfl, ?_⟩; refine ⟨_, rfl, ?_⟩; ((repeat ((fail_if_success refine ⟨_, _, _, .z, ?_⟩); refine hs ?_)); refine ⟨_, _, _, .z, ?_⟩); refine ⟨rfl, ?_⟩; go_frame) | ((with_reducible refine Hp.lds H ?_); refine ⟨rfl, by kernel_rfl, ?_⟩; refine ⟨_, s_look rfl, ?_⟩; refine ⟨_, _, rfl, ?_⟩; ((repeat ((fail_if_success refine ⟨_, _, _, .z, ?_⟩); refine hs ?_)); refine ⟨_, _, _, .z, ?_⟩); (first | refine ⟨[_, _], rfl, rfl, ?_⟩ | refine ⟨[_, _, _, _], rfl, rfl, ?_⟩ | refine ⟨[_, _, _, _, _, _, _], rfl, rfl, ?_⟩ | refine ⟨[_, _, _], rfl, rfl, ?_⟩ | (fail)); go_frame) | ((with_reducible refine Hp.sta H ?_); refine ⟨rfl, ?_⟩; refine ⟨_, s_look rfl, ?_⟩; refine ⟨_, rfl, _, rfl, rfl, ?_⟩; ((repeat ((fail_if_success refine ⟨_, _, _, .z, ?_⟩); refine hs ?_)); refine ⟨_, _, _, .z, ?_⟩); refine ⟨rfl, rfl, ?_⟩; (clear H; intro w1 H; simp only [List.set] at H); go_frame) | ((with_reducible refine Hp.str H ?_); refine ⟨rfl, ?_⟩; refine ⟨_, s_look rfl, ?_⟩; refine ⟨_, _, rfl, _, rfl, rfl, ?_⟩; ((repeat ((fail_if_success refine ⟨_, _, _, .z, ?_⟩); refine hs ?_)); refine ⟨_, _, _, .z, ?_⟩); refine ⟨rfl, _, rfl, _, rfl, Nat.le_of_ble_eq_true rfl, ?_⟩; (clear H; intro w1 H; simp only [List.set] at H); go_frame) | ((with_reducible refine Hp.bdl H ?_); (fail); go_frame) | ((with_reducible refine wl_ldc ?_); refine ⟨rfl, c_look rfl, _, rfl, .int .i64 out[k].m.fr, hfr, ?_⟩; go_frame) | ((with_reducible refine wl_ldc ?_); refine ⟨rfl, c_look rfl, _, rfl, .int .i64 out[k].m.to, hto, ?_⟩; go_frame))
                      go_roundw
                      case rel => exact ⟨k + 1, rfl, hkl, rfl⟩
                      case measure => show out.length - (k + 1) < out.length - k; omega
                  · obtain rfl : k = out.length := by omega
                    have hjj : decide ((out.length : Int) < (out.length : Int)) = false := decide_eq_false (by omega)
                    go_wp2_with (first | ((with_reducible refine Hp.allo H ?_); refine ⟨rfl, ?_⟩; refine ⟨_, z_look rfl, ?_⟩; (clear H; intro g1 w1 H); go_frame) | ((with_reducible refine Hp.ld H ?_); refine ⟨rfl, ?_⟩; refine ⟨c_look rfl, ?_⟩; refine ⟨_, _, rfl, ?_⟩; ((repeat ((fail_if_success refine ⟨_, _, _, .z, ?_⟩); refine hs ?_)); refine ⟨_, _, _, .z, ?_⟩); refine ⟨_, rfl, ?_⟩; go_frame) | ((with_reducible refine Hp.lda H ?_); refine ⟨rfl, by kernel_rfl, ?_⟩; refine ⟨_, s_look rfl, ?_⟩; refine ⟨_, rfl, ?_⟩; ((repeat ((fail_if_success refine ⟨_, _, _, .z, ?_⟩); refine hs ?_)); refine ⟨_, _, _, .z, ?_⟩); refine ⟨rfl, ?_⟩; go_frame) | ((with_reducible refine Hp.lds H ?_); refine ⟨rfl, by kernel_rfl, ?_⟩; refine ⟨_, s_look rfl, ?_⟩; refine ⟨_, _, rfl, ?_⟩; ((repeat ((fail_if_success refine ⟨_, _, _, .z, ?_⟩); refine hs ?_)); refine ⟨_, _, _, .z, ?_⟩); (first | refine ⟨[_, _], rfl, rfl, ?_⟩ | refine ⟨[_, _, _, _], rfl, rfl, ?_⟩ | refine ⟨[_, _, _, _, _, _, _], rfl, rfl, ?_⟩ | refine ⟨[_, _, _], rfl, rfl, ?_⟩ | (fail)); go_frame) | ((with_reducible refine Hp.sta H ?_); refine ⟨rfl, ?_⟩; refine ⟨_, s_look rfl, ?_⟩; refine ⟨_, rfl, _, rfl, rfl, ?_⟩; ((repeat ((fail_if_success refine ⟨_, _, _, .z, ?_⟩); refine hs ?_)); refine ⟨_, _, _, .z, ?_⟩); refine ⟨rfl, rfl, ?_⟩; (clear H; intro w1 H; simp only [List.set] at H); go_frame) | ((with_reducible refine Hp.str H ?_); refine ⟨rfl, ?_⟩; refine ⟨_, s_look rfl, ?_⟩; refine ⟨_, _, rfl, _, rfl, rfl, ?_⟩; ((repeat ((fail_if_success refine ⟨_, _, _, .z, ?_⟩); refine hs ?_)); refine ⟨_, _, _, .z, ?_⟩); refine ⟨rfl, _, rfl, _, rfl, Nat.le_of_ble_eq_true rfl, ?_⟩; (clear H; intro w1 H; simp only [List.set] at H); go_frame) | ((with_reducible refine Hp.bdl H ?_); (fail); go_frame) | (fail))
                    go_roundw
                    case rel => exact ⟨i + 1, cut, cs2, _, rfl, hlt, by omega, hI3, HN.tuck (F1 := mwI Ao co out :: N1)⟩
                    case measure => show ac.length - (i + 1) < ac.length - i; omega
            · obtain ⟨hI3, hl3⟩ := hI.cut ac[i].a ac[i].b
              obtain ⟨cut2, hcc⟩ : ∃ c, ncutC (m : Int) cut ac[i].a ac[i].b = c := ⟨_, rfl⟩
              rw [hcc] at hI3
              have hI4 := hI3
              obtain ⟨hab, _⟩ := hI4
              have hba : cutB (m : Int) cut2 (y : Int) (x : Int) = true := (cut_comm _ _ _ _).trans hab
              obtain ⟨cs2, hcs2⟩ : ∃ c, ncutL (m : Int) cut cs ac[i].a ac[i].b = c := ⟨_, rfl⟩
              rw [hcs2] at hI3 hl3
              have HCS := Lib.hid hcs2
              have HCC := Lib.hid hcc
              clear hcs2 hcc hI
              subst hq4
              as_aux_lemma =>
                go_wp2_with (first | ((with_reducible refine Hp.allo H ?_); refine ⟨rfl, ?_⟩; refine ⟨_, z_look rfl, ?_⟩; (clear H; intro g1 w1 H); go_frame) | ((with_reducible refine Hp.ld H ?_); refine ⟨rfl, ?_⟩; refine ⟨c_look rfl, ?_⟩; refine ⟨_, _, rfl, ?_⟩; ((repeat ((fail_if_success refine ⟨_, _, _, .z, ?_⟩); refine hs ?_)); refine ⟨_, _, _, .z, ?_⟩); refine ⟨_, rfl, ?_⟩; go_frame) | ((with_reducible refine Hp.lda H ?_); refine ⟨rfl, by kernel_rfl, ?_⟩; refine ⟨_, s_look rfl, ?_⟩; refine ⟨_, rfl, ?_⟩; ((repeat ((fail_if_success refine ⟨_, _, _, .z, ?_⟩); refine hs ?_)); refine ⟨_, _, _, .z, ?_⟩); refine ⟨rfl, ?_⟩; go_frame) | ((with_reducible refine Hp.lds H ?_); refine ⟨rfl, by kernel_rfl, ?_⟩; refine ⟨_, s_look rfl, ?_⟩; refine ⟨_, _, rfl, ?_⟩; ((repeat ((fail_if_success refine ⟨_, _, _, .z, ?_⟩); refine hs ?_)); refine ⟨_, _, _, .z, ?_⟩); (first | refine ⟨[_, _], rfl, rfl, ?_⟩ | refine ⟨[_, _, _, _], rfl, rfl, ?_⟩ | refine ⟨[_, _, _, _, _, _, _], rfl, rfl, ?_⟩ | refine ⟨[_, _, _], rfl, rfl, ?_⟩ | (fail)); go_frame) | ((with_reducible refine Hp.sta H ?_); refine ⟨rfl, ?_⟩; refine ⟨_, s_look rfl, ?_⟩; refine ⟨_, rfl, _, rfl, rfl, ?_⟩; ((repeat ((fail_if_success refine ⟨_, _, _, .z, ?_⟩); refine hs ?_)); refine ⟨_, _, _, .z, ?_⟩); refine ⟨rfl, rfl, ?_⟩; (clear H; intro w1 H; simp only [List.set] at H); go_frame) | ((with_reducible refine Hp.str H ?_); refine ⟨rfl, ?_⟩; refine ⟨_, s_look rfl, ?_⟩; refine ⟨_, _, rfl, _, rfl, rfl, ?_⟩; ((repeat ((fail_if_success refine ⟨_, _, _, .z, ?_⟩); refine hs ?_)); refine ⟨_, _, _, .z, ?_⟩); refine ⟨rfl, _, rfl, _, rfl, Nat.le_of_ble_eq_true rfl, ?_⟩; (clear H; intro w1 H; simp only [List.set] at H); go_frame) | ((with_reducible refine Hp.bdl H ?_); (fail); go_frame) | ((with_reducible refine NetZ.ldo HN ?_); refine ⟨rfl, c_look rfl, _, rfl, .int .u8 (K : Int), hk0, ?_⟩; go_frame))
                obtain ⟨A2, c2, fl2, q1, q2, q3, q4, H⟩ := HN
                refine hw_start (_ :: _ :: ([] ++ Z)) [] (by rw [List.append_nil]; exact H) (by kernel_rfl) (fun w1 H => ?_)
                rw [List.append_nil] at H
                have HN := NetZ.mk0 q1 q2 q3 q4 H
                clear H q1 q2 q3 q4
                have hS := HN.W0
                (refine hw_take hS 0 (by decide +kernel) (by decide +kernel) (by decide +kernel) ⟨_, rfl, rfl, ?_, ?_, fun _ _ _ h => h, ?_⟩; rotate_left; (intro w _; go_simp; try with_reducible rfl); go_frame); (refine hw_take hS 1 (by decide +kernel) (by decide +kernel) (by decide +kernel) ⟨_, rfl, rfl, ?_, ?_, fun _ _ _ h => h, ?_⟩; rotate_left; (intro w _; go_simp; try with_reducible rfl); go_frame); (refine hw_take hS 2 (by decide +kernel) (by decide +kernel) (by decide +kernel) ⟨_, rfl, rfl, ?_, ?_, fun _ _ _ h => h, ?_⟩; rotate_left; (intro w _; go_simp; try with_reducible rfl); go_frame)
                (refine hw_take hS 3 (by decide +kernel) (by decide +kernel) (by decide +kernel) ⟨_, rfl, rfl, _, fun w _ => ex_idx (i := i) rfl act_u s_nAct rfl rfl rfl hlt, fun _ _ _ h => h, ?_⟩; go_frame)
                (refine hw_take hS 4 (by decide +kernel) (by decide +kernel) (by decide +kernel) ⟨_, rfl, rfl, ?_, ?_, fun _ _ _ h => h, ?_⟩; rotate_left; (intro w _; go_simp; try with_reducible rfl); go_frame)
                (refine hw_take hS 5 (by decide +kernel) (by decide +kernel) (by decide +kernel) ⟨_, rfl, rfl, _, fun w h => ex_load rfl rfl (hw_ldo (by kernel_rfl) hka w h), fun _ _ _ h => h, ?_⟩; go_frame)
                (refine hw_take hS 6 (by decide +kernel) (by decide +kernel) (by decide +kernel) ⟨_, rfl, rfl, ?_, ?_, fun _ _ _ h => h, ?_⟩; rotate_left; (intro w _; go_simp; try with_reducible rfl); go_frame); (refine hw_take hS 7 (by decide +kernel) (by decide +kernel) (by decide +kernel) ⟨_, rfl, rfl, ?_, ?_, fun _ _ _ h => h, ?_⟩; rotate_left; (intro w _; go_simp; try with_reducible rfl); go_frame)
                (refine hw_take hS 8 (by decide +kernel) (by decide +kernel) (by decide +kernel) ⟨_, rfl, rfl, _, fun w _ => ex_idx (i := i) rfl act_u s_nAct rfl rfl rfl hlt, fun _ _ _ h => h, ?_⟩; go_frame)
                (refine hw_take hS 9 (by decide +kernel) (by decide +kernel) (by decide +kernel) ⟨_, rfl, rfl, ?_, ?_, fun _ _ _ h => h, ?_⟩; rotate_left; (intro w _; go_simp; try with_reducible rfl); go_frame)
                (refine hw_take hS 10 (by decide +kernel) (by decide +kernel) (by decide +kernel) ⟨_, rfl, rfl, _, fun w h => ex_load rfl rfl (hw_ldo (by kernel_rfl) hkb w h), fun _ _ _ h => h, ?_⟩; go_frame)
                refine hw_one 11 (by decide +kernel) ⟨_, rfl, rfl, fun K hK => ?_⟩
                refine hw_callk (vs := [.pointer (some ⟨g, 0, none⟩), .int .i64 ac[i].a, .int .i64 ac[i].b]) (ncut_v HN hcn HCC.out HCS.out rfl) cf_ncut rfl rfl rfl (fun e w1 hp => ?_)
                obtain ⟨rfl, Z4, hZ4, HN2⟩ := hp
                clear HN hZ4
                have HN := HN2
                clear HN2
                refine ⟨_, rfl, ?_⟩
                refine hK _ _ HN.W0 ?_
                clear hK K hS
                go_frame
                refine wpAnyH_done (by kernel_rfl) ?_ _
                go_wp2_with (first | ((with_reducible refine Hp.allo H ?_); refine ⟨rfl, ?_⟩; refine ⟨_, z_look rfl, ?_⟩; (clear H; intro g1 w1 H); go_frame) | ((with_reducible refine Hp.ld H ?_); refine ⟨rfl, ?_⟩; refine ⟨c_look rfl, ?_⟩; refine ⟨_, _, rfl, ?_⟩; ((repeat ((fail_if_success refine ⟨_, _, _, .z, ?_⟩); refine hs ?_)); refine ⟨_, _, _, .z, ?_⟩); refine ⟨_, rfl, ?_⟩; go_frame) | ((with_reducible refine Hp.lda H ?_); refine ⟨rfl, by kernel_rfl, ?_⟩; refine ⟨_, s_look rfl, ?_⟩; refine ⟨_, rfl, ?_⟩; ((repeat ((fail_if_success refine ⟨_, _, _, .z, ?_⟩); refine hs ?_)); refine ⟨_, _, _, .z, ?_⟩); refine ⟨rfl, ?_⟩; go_frame) | ((with_reducible refine Hp.lds H ?_); refine ⟨rfl, by kernel_rfl, ?_⟩; refine ⟨_, s_look rfl, ?_⟩; refine ⟨_, _, rfl, ?_⟩; ((repeat ((fail_if_success refine ⟨_, _, _, .z, ?_⟩); refine hs ?_)); refine ⟨_, _, _, .z, ?_⟩); (first | refine ⟨[_, _], rfl, rfl, ?_⟩ | refine ⟨[_, _, _, _], rfl, rfl, ?_⟩ | refine ⟨[_, _, _, _, _, _, _], rfl, rfl, ?_⟩ | refine ⟨[_, _, _], rfl, rfl, ?_⟩ | (fail)); go_frame) | ((with_reducible refine Hp.sta H ?_); refine ⟨rfl, ?_⟩; refine ⟨_, s_look rfl, ?_⟩; refine ⟨_, rfl, _, rfl, rfl, ?_⟩; ((repeat ((fail_if_success refine ⟨_, _, _, .z, ?_⟩); refine hs ?_)); refine ⟨_, _, _, .z, ?_⟩); refine ⟨rfl, rfl, ?_⟩; (clear H; intro w1 H; simp only [List.set] at H); go_frame) | ((with_reducible refine Hp.str H ?_); refine ⟨rfl, ?_⟩; refine ⟨_, s_look rfl, ?_⟩; refine ⟨_, _, rfl, _, rfl, rfl, ?_⟩; ((repeat ((fail_if_success refine ⟨_, _, _, .z, ?_⟩); refine hs ?_)); refine ⟨_, _, _, .z, ?_⟩); refine ⟨rfl, _, rfl, _, rfl, Nat.le_of_ble_eq_true rfl, ?_⟩; (clear H; intro w1 H; simp only [List.set] at H); go_frame) | ((with_reducible refine Hp.bdl H ?_); (fail); go_frame) | ((with_reducible refine (niscut_o (r := true) HN hcn hab).mono ?_); rintro _ w1 ⟨rfl, Z2, hZs, HN2⟩; clear HN hZs; (have HN := HN2); clear HN2) | ((with_reducible refine (niscut_o (r := true) HN hcn hba).mono ?_); rintro _ w1 ⟨rfl, Z2, hZs, HN2⟩; clear HN hZs; (have HN := HN2); clear HN2) | ((with_reducible refine (nall_o HN hcn).mono ?_); rintro _ wE ⟨Ao, co, out, N1, Z3, rfl, ho, hN1, hZs, HN2⟩; clear HN hZs; (have HN := HN2); clear HN2))
                have hatI : InRel out.length wE (.int .i64 (0 : Nat)) wE := ⟨0, rfl, Nat.zero_le _, rfl⟩
                go_loopw [15] (fun v wr => InRel out.length wE v wr) (fun v _ => out.length - (intOf v).toNat)
                case atStart => exact hatI
                case round =>
                  clear hatI
                  obtain ⟨k, rfl, hk, hwr⟩ := hrel
                  subst hwr
                  by_cases hkl : k < out.length
                  · obtain ⟨gO, rfl, hf⟩ := HN.fld hkl
                    have hfr := hf 1 _ rfl
                    have hto := hf 2 _ rfl
                    clear hf
                    have hk2 : IntKind.i64.wrap ((k : Int) + 1) = ((k + 1 : Nat) : Int) := IntWalk.i64_in _ (by have := HN.len; rw [← ho, List.length_map] at this; omega)
                    obtain ⟨n1, n2⟩ := hI3.not (ho ▸ List.mem_map_of_mem (f := cx) (List.getElem_mem hkl))
                    replace n1 : ¬ (out[k].m.fr = (x : Int) ∧ out[k].m.to = (y : Int)) := n1
                    replace n2 : ¬ (out[k].m.fr = (y : Int) ∧ out[k].m.to = (x : Int)) := n2
                    have hch : ((out[k].m.fr == (x : Int)) = true ∧ (out[k].m.to == (y : Int)) = false ∧ (out[k].m.fr == (y : Int)) = false) ∨ ((out[k].m.fr == (x : Int)) = false ∧ (out[k].m.fr == (y : Int)) = true ∧ (out[k].m.to == (x : Int)) = false) ∨ ((out[k].m.fr == (x : Int)) = false ∧ (out[k].m.fr == (y : Int)) = false) := by
                      simp only [beq_iff_eq, beq_eq_false_iff_ne]
                      omega
                    clear n1 n2
                    rcases hch with ⟨d1, d2, d3⟩ | ⟨d1, d2, d3⟩ | ⟨d1, d2⟩
                    all_goals
                      go_wp2_with (first | ((with_reducible refine Hp.allo H ?_); refine ⟨rfl, ?_⟩; refine ⟨_, z_look rfl, ?_⟩; (clear H; intro g1 w1 H); go_frame) | ((with_reducible refine Hp.ld H ?_); refine ⟨rfl, ?_⟩; refine ⟨c_look rfl, ?_⟩; refine ⟨_, _, rfl, ?_⟩; ((repeat ((fail_if_success refine ⟨_, _, _, .z, ?_⟩); refine hs ?_)); refine ⟨_, _, _, .z, ?_⟩); refine ⟨_, rfl, ?_⟩; go_frame) | ((with_reducible refine Hp.lda H ?_); refine ⟨rfl, by kernel_rfl, ?_⟩; refine ⟨_, s_look rfl, ?_⟩; refine ⟨_, rfl, ?_⟩; ((repeat ((fail_if_success refine ⟨_, _, _, .z, ?_⟩); refine hs ?_)); refine ⟨_, _, _, .z, ?_⟩); refine ⟨rfl, ?_⟩; go_frame) | ((with_reducible refine Hp.lds H ?_); refine ⟨rfl, by kernel_rfl, ?_⟩; refine ⟨_, s_look rfl, ?_⟩; refine ⟨_, _, rfl, ?_⟩; ((repeat ((fail_if_success refine ⟨_, _, _, .z, ?_⟩); refine hs ?_)); refine ⟨_, _, _, .z, ?_⟩); (first | refine ⟨[_, _], rfl, rfl, ?_⟩ | refine ⟨[_, _, _, _], rfl, rfl, ?_⟩ | refine ⟨[_, _, _, _, _, _, _], rfl, rfl, ?_⟩ | refine ⟨[_, _, _], rfl, rfl, ?_⟩ | (fail)); go_frame) | ((with_reducible refine Hp.sta H ?_); refine ⟨rfl, ?_⟩; refine ⟨_, s_look rfl, ?_⟩; refine ⟨_, rfl, _, rfl, rfl, ?_⟩; ((repeat ((fail_if_success refine ⟨_, _, _, .z, ?_⟩); refine hs ?_)); refine ⟨_, _, _, .z, ?_⟩); refine ⟨rfl, rfl, ?_⟩; (clear H; intro w1 H; simp only [List.set] at H); go_frame) | ((with_reducible refine Hp.str H ?_); refine ⟨rfl, ?_⟩; refine ⟨_, s_look rfl, ?_⟩; refine ⟨_, _, rfl, _, rfl, rfl, ?_⟩; ((repeat ((fail_if_success refine ⟨_, _, _, .z, ?_⟩); refine hs ?_)); refine ⟨_, _, _, .z, ?_⟩); refine ⟨rfl, _, rfl, _, rfl, Nat.le_of_ble_eq_true rfl, ?_⟩; (clear H; intro w1 H; simp only [List.set] at H); go_frame) | ((with_reducible refine Hp.bdl H ?_); (fail); go_frame) | ((with_reducible refine wl_ldc ?_); refine ⟨rfl, c_look rfl, _, rfl, .int .i64 out[k].m.fr, hfr, ?_⟩; go_frame) | ((with_reducible refine wl_ldc ?_); refine ⟨rfl, c_look rfl, _, rfl, .int .i64 out[k].m.to, hto, ?_⟩; go_frame))
                      go_roundw
                      case rel => exact ⟨k + 1, rfl, hkl, rfl⟩
                      case measure => show out.length - (k + 1) < out.length - k; omega
                  · obtain rfl : k = out.length := by omega
                    have hjj : decide ((out.length : Int) < (out.length : Int)) = false := decide_eq_false (by omega)
                    go_wp2_with (first | ((with_reducible refine Hp.allo H ?_); refine ⟨rfl, ?_⟩; refine ⟨_, z_look rfl, ?_⟩; (clear H; intro g1 w1 H); go_frame) | ((with_reducible refine Hp.ld H ?_); refine ⟨rfl, ?_⟩; refine ⟨c_look rfl, ?_⟩; refine ⟨_, _, rfl, ?_⟩; ((repeat ((fail_if_success refine ⟨_, _, _, .z, ?_⟩); refine hs ?_)); refine ⟨_, _, _, .z, ?_⟩); refine ⟨_, rfl, ?_⟩; go_frame) | ((with_reducible refine Hp.lda H ?_); refine ⟨rfl, by kernel_rfl, ?_⟩; refine ⟨_, s_look rfl, ?_⟩; refine ⟨_, rfl, ?_⟩; ((repeat ((fail_if_success refine ⟨_, _, _, .z, ?_⟩); refine hs ?_)); refine ⟨_, _, _, .z, ?_⟩); refine ⟨rfl, ?_⟩; go_frame) | ((with_reducible refine Hp.lds H ?_); refine ⟨rfl, by kernel_rfl, ?_⟩; refine ⟨_, s_look rfl, ?_⟩; refine ⟨_, _, rfl, ?_⟩; ((repeat ((fail_if_success refine ⟨_, _, _, .z, ?_⟩); refine hs ?_)); refine ⟨_, _, _, .z, ?_⟩); (first | refine ⟨[_, _], rfl, rfl, ?_⟩ | refine ⟨[_, _, _, _], rfl, rfl, ?_⟩ | refine ⟨[_, _, _, _, _, _, _], rfl, rfl, ?_⟩ | refine ⟨[_, _, _], rfl, rfl, ?_⟩ | (fail)); go_frame) | ((with_reducible refine Hp.sta H ?_); refine ⟨rfl, ?_⟩; refine ⟨_, s_look rfl, ?_⟩; refine ⟨_, rfl, _, rfl, rfl, ?_⟩; ((repeat ((fail_if_success refine ⟨_, _, _, .z, ?_⟩); refine hs ?_)); refine ⟨_, _, _, .z, ?_⟩); refine ⟨rfl, rfl, ?_⟩; (clear H; intro w1 H; simp only [List.set] at H); go_frame) | ((with_reducible refine Hp.str H ?_); refine ⟨rfl, ?_⟩; refine ⟨_, s_look rfl, ?_⟩; refine ⟨_, _, rfl, _, rfl, rfl, ?_⟩; ((repeat ((fail_if_success refine ⟨_, _, _, .z, ?_⟩); refine hs ?_)); refine ⟨_, _, _, .z, ?_⟩); refine ⟨rfl, _, rfl, _, rfl, Nat.le_of_ble_eq_true rfl, ?_⟩; (clear H; intro w1 H; simp only [List.set] at H); go_frame) | ((with_reducible refine Hp.bdl H ?_); (fail); go_frame) | (fail))
                    go_roundw
                    case rel => exact ⟨i + 1, cut2, cs2, _, rfl, hlt, by omega, hI3, HN.tuck (F1 := mwI Ao co out :: N1)⟩
                    case measure => show ac.length - (i + 1) < ac.length - i; omega
            · obtain ⟨hI3, hl3⟩ : Inv (m : Int) (x : Int) (y : Int) cut cs ∧ cs.length ≤ cs.length + 1 := ⟨hI, by omega⟩
              have hI4 := hI3
              obtain ⟨hab, _⟩ := hI4
              have hba : cutB (m : Int) cut (y : Int) (x : Int) = true := (cut_comm _ _ _ _).trans hab
              clear hI
              obtain rfl | rfl : q = 8 ∨ q = 9 := by omega
              all_goals as_aux_lemma =>
                go_wp2_with (first | ((with_reducible refine Hp.allo H ?_); refine ⟨rfl, ?_⟩; refine ⟨_, z_look rfl, ?_⟩; (clear H; intro g1 w1 H); go_frame) | ((with_reducible refine Hp.ld H ?_); refine ⟨rfl, ?_⟩; refine ⟨c_look rfl, ?_⟩; refine ⟨_, _, rfl, ?_⟩; ((repeat ((fail_if_success refine ⟨_, _, _, .z, ?_⟩); refine hs ?_)); refine ⟨_, _, _, .z, ?_⟩); refine ⟨_, rfl, ?_⟩; go_frame) | ((with_reducible refine Hp.lda H ?_); refine ⟨rfl, by kernel_rfl, ?_⟩; refine ⟨_, s_look rfl, ?_⟩; refine ⟨_, rfl, ?_⟩; ((repeat ((fail_if_success refine ⟨_, _, _, .z, ?_⟩); refine hs ?_)); refine ⟨_, _, _, .z, ?_⟩); refine ⟨rfl, ?_⟩; go_frame) | ((with_reducible refine Hp.lds H ?_); refine ⟨rfl, by kernel_rfl, ?_⟩; refine ⟨_, s_look rfl, ?_⟩; refine ⟨_, _, rfl, ?_⟩; ((repeat ((fail_if_success refine ⟨_, _, _, .z, ?_⟩); refine hs ?_)); refine ⟨_, _, _, .z, ?_⟩); (first | refine ⟨[_, _], rfl, rfl, ?_⟩ | refine ⟨[_, _, _, _], rfl, rfl, ?_⟩ | refine ⟨[_, _, _, _, _, _, _], rfl, rfl, ?_⟩ | refine ⟨[_, _, _], rfl, rfl, ?_⟩ | (fail)); go_frame) | ((with_reducible refine Hp.sta H ?_); refine ⟨rfl, ?_⟩; refine ⟨_, s_look rfl, ?_⟩; refine ⟨_, rfl, _, rfl, rfl, ?_⟩; ((repeat ((fail_if_success refine ⟨_, _, _, .z, ?_⟩); refine hs ?_)); refine ⟨_, _, _, .z, ?_⟩); refine ⟨rfl, rfl, ?_⟩; (clear H; intro w1 H; simp only [List.set] at H); go_frame) | ((with_reducible refine Hp.str H ?_); refine ⟨rfl, ?_⟩; refine ⟨_, s_look rfl, ?_⟩; refine ⟨_, _, rfl, _, rfl, rfl, ?_⟩; ((repeat ((fail_if_success refine ⟨_, _, _, .z, ?_⟩); refine hs ?_)); refine ⟨_, _, _, .z, ?_⟩); refine ⟨rfl, _, rfl, _, rfl, Nat.le_of_ble_eq_true rfl, ?_⟩; (clear H; intro w1 H; simp only [List.set] at H); go_frame) | ((with_reducible refine Hp.bdl H ?_); (fail); go_frame) | ((with_reducible refine NetZ.ldo HN ?_); refine ⟨rfl, c_look rfl, _, rfl, .int .u8 (K : Int), hk0, ?_⟩; go_frame) | ((with_reducible refine (niscut_o (r := true) HN hcn hab).mono ?_); rintro _ w1 ⟨rfl, Z2, hZs, HN2⟩; clear HN hZs; (have HN := HN2); clear HN2) | ((with_reducible refine (niscut_o (r := true) HN hcn hba).mono ?_); rintro _ w1 ⟨rfl, Z2, hZs, HN2⟩; clear HN hZs; (have HN := HN2); clear HN2) | ((with_reducible refine (nall_o HN hcn).mono ?_); rintro _ wE ⟨Ao, co, out, N1, Z3, rfl, ho, hN1, hZs, HN2⟩; clear HN hZs; (have HN := HN2); clear HN2))
                have hatI : InRel out.length wE (.int .i64 (0 : Nat)) wE := ⟨0, rfl, Nat.zero_le _, rfl⟩
                go_loopw [15] (fun v wr => InRel out.length wE v wr) (fun v _ => out.length - (intOf v).toNat)
                case atStart => exact hatI
                case round =>
                  clear hatI
                  obtain ⟨k, rfl, hk, hwr⟩ := hrel
                  subst hwr
                  by_cases hkl : k < out.length
                  · obtain ⟨gO, rfl, hf⟩ := HN.fld hkl
                    have hfr := hf 1 _ rfl
                    have hto := hf 2 _ rfl
                    clear hf
                    have hk2 : IntKind.i64.wrap ((k : Int) + 1) = ((k + 1 : Nat) : Int) := IntWalk.i64_in _ (by have := HN.len; rw [← ho, List.length_map] at this; omega)
                    obtain ⟨n1, n2⟩ := hI3.not (ho ▸ List.mem_map_of_mem (f := cx) (List.getElem_mem hkl))
                    replace n1 : ¬ (out[k].m.fr = (x : Int) ∧ out[k].m.to = (y : Int)) := n1
                    replace n2 : ¬ (out[k].m.fr = (y : Int) ∧ out[k].m.to = (x : Int)) := n2
                    have hch : ((out[k].m.fr == (x : Int)) = true ∧ (out[k].m.to == (y : Int)) = false ∧ (out[k].m.fr == (y : Int)) = false) ∨ ((out[k].m.fr == (x : Int)) = false ∧ (out[k].m.fr == (y : Int)) = true ∧ (out[k].m.to == (x : Int)) = false) ∨ ((out[k].m.fr == (x : Int)) = false ∧ (out[k].m.fr == (y : Int)) = false) := by
                      simp only [beq_iff_eq, beq_eq_false_iff_ne]
                      omega
                    clear n1 n2
                    rcases hch with ⟨d1, d2, d3⟩ | ⟨d1, d2, d3⟩ | ⟨d1, d2⟩
                    all_goals
                      go_wp2_with (first | ((with_reducible refine Hp.allo H ?_); refine ⟨rfl, ?_⟩; refine ⟨_, z_look rfl, ?_⟩; (clear H; intro g1 w1 H); go_frame) | ((with_reducible refine Hp.ld H ?_); refine ⟨rfl, ?_⟩; refine ⟨c_look rfl, ?_⟩; refine ⟨_, _, rfl, ?_⟩; ((repeat ((fail_if_success refine ⟨_, _, _, .z, ?_⟩); refine hs ?_)); refine ⟨_, _, _, .z, ?_⟩); refine ⟨_, rfl, ?_⟩; go_frame) | ((with_reducible refine Hp.lda H ?_); refine ⟨rfl, by kernel_rfl, ?_⟩; refine ⟨_, s_look rfl, ?_⟩; refine ⟨_, rfl, ?_⟩; ((repeat ((fail_if_success refine ⟨_, _, _, .z, ?_⟩); refine hs ?_)); refine ⟨_, _, _, .z, ?_⟩); refine ⟨rfl, ?_⟩; go_frame) | ((with_reducible refine Hp.lds H ?_); refine ⟨rfl, by kernel_rfl, ?_⟩; refine ⟨_, s_look rfl, ?_⟩; refine ⟨_, _, rfl, ?_⟩; ((repeat ((fail_if_success refine ⟨_, _, _, .z, ?_⟩); refine hs ?_)); refine ⟨_, _, _, .z, ?_⟩); (first | refine ⟨[_, _], rfl, rfl, ?_⟩ | refine ⟨[_, _, _, _], rfl, rfl, ?_⟩ | refine ⟨[_, _, _, _, _, _, _], rfl, rfl, ?_⟩ | refine ⟨[_, _, _], rfl, rfl, ?_⟩ | (fail)); go_frame) | ((with_reducible refine Hp.sta H ?_); refine ⟨rfl, ?_⟩; refine ⟨_, s_look rfl, ?_⟩; refine ⟨_, rfl, _, rfl, rfl, ?_⟩; ((repeat ((fail_if_success refine ⟨_, _, _, .z, ?_⟩); refine hs ?_)); refine ⟨_, _, _, .z, ?_⟩); refine ⟨rfl, rfl, ?_⟩; (clear H; intro w1 H; simp only [List.set] at H); go_frame) | ((with_reducible refine Hp.str H ?_); refine ⟨rfl, ?_⟩; refine ⟨_, s_look rfl, ?_⟩; refine ⟨_, _, rfl, _, rfl, rfl, ?_⟩; ((repeat ((fail_if_success refine ⟨_, _, _, .z, ?_⟩); refine hs ?_)); refine ⟨_, _, _, .z, ?_⟩); refine ⟨rfl, _, rfl, _, rfl, Nat.le_of_ble_eq_true rfl, ?_⟩; (clear H; intro w1 H; simp only [List.set] at H); go_frame) | ((with_reducible refine Hp.bdl H ?_); (fail); go_frame) | ((with_reducible refine wl_ldc ?_); refine ⟨rfl, c_look rfl, _, rfl, .int .i64 out[k].m.fr, hfr, ?_⟩; go_frame) | ((with_reducible refine wl_ldc ?_); refine ⟨rfl, c_look rfl, _, rfl, .int .i64 out[k].m.to, hto, ?_⟩; go_frame))
                      go_roundw
                      case rel => exact ⟨k + 1, rfl, hkl, rfl⟩
                      case measure => show out.length - (k + 1) < out.length - k; omega
                  · obtain rfl : k = out.length := by omega
                    have hjj : decide ((out.length : Int) < (out.length : Int)) = false := decide_eq_false (by omega)
                    go_wp2_with (first | ((with_reducible refine Hp.allo H ?_); refine ⟨rfl, ?_⟩; refine ⟨_, z_look rfl, ?_⟩; (clear H; intro g1 w1 H); go_frame) | ((with_reducible refine Hp.ld H ?_); refine ⟨rfl, ?_⟩; refine ⟨c_look rfl, ?_⟩; refine ⟨_, _, rfl, ?_⟩; ((repeat ((fail_if_success refine ⟨_, _, _, .z, ?_⟩); refine hs ?_)); refine ⟨_, _, _, .z, ?_⟩); refine ⟨_, rfl, ?_⟩; go_frame) | ((with_reducible refine Hp.lda H ?_); refine ⟨rfl, by kernel_rfl, ?_⟩; refine ⟨_, s_look rfl, ?_⟩; refine ⟨_, rfl, ?_⟩; ((repeat ((fail_if_success refine ⟨_, _, _, .z, ?_⟩); refine hs ?_)); refine ⟨_, _, _, .z, ?_⟩); refine ⟨rfl, ?_⟩; go_frame) | ((with_reducible refine Hp.lds H ?_); refine ⟨rfl, by kernel_rfl, ?_⟩; refine ⟨_, s_look rfl, ?_⟩; refine ⟨_, _, rfl, ?_⟩; ((repeat ((fail_if_success refine ⟨_, _, _, .z, ?_⟩); refine hs ?_)); refine ⟨_, _, _, .z, ?_⟩); (first | refine ⟨[_, _], rfl, rfl, ?_⟩ | refine ⟨[_, _, _, _], rfl, rfl, ?_⟩ | refine ⟨[_, _, _, _, _, _, _], rfl, rfl, ?_⟩ | refine ⟨[_, _, _], rfl, rfl, ?_⟩ | (fail)); go_frame) | ((with_reducible refine Hp.sta H ?_); refine ⟨rfl, ?_⟩; refine ⟨_, s_look rfl, ?_⟩; refine ⟨_, rfl, _, rfl, rfl, ?_⟩; ((repeat ((fail_if_success refine ⟨_, _, _, .z, ?_⟩); refine hs ?_)); refine ⟨_, _, _, .z, ?_⟩); refine ⟨rfl, rfl, ?_⟩; (clear H; intro w1 H; simp only [List.set] at H); go_frame) | ((with_reducible refine Hp.str H ?_); refine ⟨rfl, ?_⟩; refine ⟨_, s_look rfl, ?_⟩; refine ⟨_, _, rfl, _, rfl, rfl, ?_⟩; ((repeat ((fail_if_success refine ⟨_, _, _, .z, ?_⟩); refine hs ?_)); refine ⟨_, _, _, .z, ?_⟩); refine ⟨rfl, _, rfl, _, rfl, Nat.le_of_ble_eq_true rfl, ?_⟩; (clear H; intro w1 H; simp only [List.set] at H); go_frame) | ((with_reducible refine Hp.bdl H ?_); (fail); go_frame) | (fail))
                    go_roundw
                    case rel => exact ⟨i + 1, cut, cs, _, rfl, hlt, by omega, hI3, HN.tuck (F1 := mwI Ao co out :: N1)⟩
                    case measure => show ac.length - (i + 1) < ac.length - i; omega
          · obtain rfl : i = ac.length := by omega
            have hjj : decide ((ac.length : Int) < (ac.length : Int)) = false := decide_eq_false (by omega)
            have hx0 : 0 ≤ (x : Int) ∧ (x : Int) < (m : Int) := by omega
            have hy0 : 0 ≤ (y : Int) ∧ (y : Int) < (m : Int) := by omega
            have hxy2 : (x : Int) ≠ (y : Int) := beq_eq_false_iff_ne.1 hxy
            have hft : ftB (m : Int) (x : Int) (y : Int) = true := by
              simp only [ftB, repIx, Bool.and_eq_true, decide_eq_true_eq, bne_iff_ne]
              exact ⟨hx0, hy0, hxy2⟩
            have hab := hI.1
            have hab0 : cutB (m : Int) cut0 (x : Int) (y : Int) = false := by unfold cutB; rw [cut0_getD, Bool.and_false]
            have hIx : I64 (x : Int) := ⟨by omega, by omega⟩
            have hIy : I64 (y : Int) := ⟨by omega, by omega⟩
            have hw1 : IntKind.i64.wrap ((cs.length : Int) + 1) = (cs.length : Int) + 1 := IntWalk.i64_in _ (by omega)
            have hw2 : IntKind.i64.wrap ((cs.length : Int) + 2) = (cs.length : Int) + 2 := IntWalk.i64_in _ (by omega)
            have hl1 : cs.length < 200 := by omega
            obtain ⟨cs2, hcs2⟩ : ∃ c, cs ++ [⟨askM z (x : Int), [], []⟩] = c := ⟨_, rfl⟩
            have hl2 : cs2.length = cs.length + 1 := by rw [← hcs2]; simp
            have hl2' : cs2.length < 200 := by omega
            obtain ⟨cs3, hcs3⟩ : ∃ c, cs2 ++ [ftX (x : Int) (y : Int) 1] = c := ⟨_, rfl⟩
            have hl3 : cs3.length = cs.length + 2 := by rw [← hcs3, List.length_append, hl2]; rfl
            have HC2 := Lib.hid hcs2
            have HC3 := Lib.hid hcs3
            clear hcs2 hcs3 hI hxy2
            have hx100 : (x : Int) < 100 := by omega
            as_aux_lemma =>
              go_wp2_with (first | (fail) | ((with_reducible refine Hp.ld H ?_); refine ⟨rfl, ?_⟩; refine ⟨c_look rfl, ?_⟩; refine ⟨_, _, rfl, ?_⟩; ((repeat ((fail_if_success refine ⟨_, _, _, .z, ?_⟩); refine hs ?_)); refine ⟨_, _, _, .z, ?_⟩); refine ⟨_, rfl, ?_⟩; go_frame) | ((with_reducible refine Hp.lda H ?_); refine ⟨rfl, by kernel_rfl, ?_⟩; refine ⟨_, s_look rfl, ?_⟩; refine ⟨_, rfl, ?_⟩; ((repeat ((fail_if_success refine ⟨_, _, _, .z, ?_⟩); refine hs ?_)); refine ⟨_, _, _, .z, ?_⟩); refine ⟨rfl, ?_⟩; go_frame) | ((with_reducible refine Hp.lds H ?_); refine ⟨rfl, by kernel_rfl, ?_⟩; refine ⟨_, s_look rfl, ?_⟩; refine ⟨_, _, rfl, ?_⟩; ((repeat ((fail_if_success refine ⟨_, _, _, .z, ?_⟩); refine hs ?_)); refine ⟨_, _, _, .z, ?_⟩); (first | refine ⟨[_, _], rfl, rfl, ?_⟩ | refine ⟨[_, _, _, _], rfl, rfl, ?_⟩ | refine ⟨[_, _, _, _, _, _, _], rfl, rfl, ?_⟩ | refine ⟨[_, _, _], rfl, rfl, ?_⟩ | (fail)); go_frame) | (fail) | (fail) | (fail) | ((with_reducible refine (nall_f HN hcn (m := cs.length) rfl).mono ?_); rintro _ w1 ⟨A5, c5, Z5, rfl, hZ5, HN2⟩; clear HN hZ5; (have HN := HN2); clear HN2) | ((with_reducible refine (nall_f HN hcn hl2).mono ?_); rintro _ w1 ⟨A5, c5, Z5, rfl, hZ5, HN2⟩; clear HN hZ5; (have HN := HN2); clear HN2) | ((with_reducible refine (nall_f HN hcn hl3).mono ?_); rintro _ w1 ⟨A5, c5, Z5, rfl, hZ5, HN2⟩; clear HN hZ5; (have HN := HN2); clear HN2) | (((have HNX := HN); (obtain ⟨A6, c6, fl6, q1, q2, q3, q4, H⟩ := HNX); (with_reducible refine Hp.bdl (t := 25) (parts := [_, _]) H ?_); refine ⟨rfl, [_, _, _, _], b_op1, ?_⟩; clear H q1 q2 q3 q4; go_frame)) | (((have HNX := HN); (obtain ⟨A6, c6, fl6, q1, q2, q3, q4, H⟩ := HNX); (with_reducible refine Hp.bdl (t := 34) (parts := [_, _, _, _, _]) H ?_); refine ⟨rfl, mgC (askM z (x : Int)), b_ask _ _, ?_⟩; clear H q1 q2 q3 q4; go_frame)) | ((obtain ⟨A6, c6, fl6, q1, q2, q3, q4, H⟩ := HN); (with_reducible refine Hp.allo (ty := 34) H ?_); refine ⟨rfl, ?_⟩; refine ⟨_, z_look rfl, ?_⟩; (clear H; intro g17 w1 H); go_frame) | ((with_reducible refine Hp.sta H ?_); refine ⟨rfl, ?_⟩; refine ⟨_, s_look rfl, ?_⟩; refine ⟨_, rfl, mgC (askM z (x : Int)), rfl, rfl, ?_⟩; refine ⟨_, _, _, .z, ?_⟩; refine ⟨rfl, rfl, ?_⟩; (clear H; intro w1 H; simp only [List.set] at H); (have HN := NetZ.mk1 q1 q2 q3 q4 H); clear H q1 q2 q3 q4; go_frame) | ((with_reducible refine NetZ.ldaF HN ?_); refine ⟨rfl, by kernel_rfl, _, s_Msg, rfl, rfl, ?_⟩; go_frame) | ((with_reducible refine (nsend_ask HN hFC hcn hz4 hx0 hx100 hl1).mono ?_); (rw [HC2.out]); rintro _ w1 ⟨rfl, Z2, hZs, HN2⟩; clear HN hZs; (have HN := HN2); clear HN2) | ((with_reducible refine (nfetch_any _ _ _ _).mono ?_); rintro _ w1 ⟨rfl, hb⟩; replace HN := HN.call hb; clear hb) | ((with_reducible refine (nsendc_v HN hFC hcn hIx hIy (by decide) hft hab).mono ?_); rintro _ w1 ⟨rfl, Z2, hZs, HN2⟩; clear HN hZs; (have HN := HN2); clear HN2) | ((with_reducible refine (nheal_o HN hcn).mono ?_); rintro _ w1 ⟨rfl, Z2, hZs, HN2⟩; clear HN hZs; (have HN := HN2); clear HN2) | ((with_reducible refine (niscut_o (r := false) HN hcn hab0).mono ?_); rintro _ w1 ⟨rfl, Z2, hZs, HN2⟩; clear HN hZs; (have HN := HN2); clear HN2) | ((with_reducible refine (nsendo_v HN hFC hcn hIx hIy (by decide) hft hab0 hl2').mono ?_); (rw [HC3.out]); rintro _ w1 ⟨rfl, Z2, hZs, HN2⟩; clear HN hZs; (have HN := HN2); clear HN2))
              go_ret
              exact ⟨rfl, hbW.trans (HN.below.mono hbW.size)⟩
      · go_wp2_with (first | (fail) | ((with_reducible refine Hp.ld H ?_); refine ⟨rfl, ?_⟩; refine ⟨c_look rfl, ?_⟩; refine ⟨_, _, rfl, ?_⟩; ((repeat ((fail_if_success refine ⟨_, _, _, .z, ?_⟩); refine hs ?_)); refine ⟨_, _, _, .z, ?_⟩); refine ⟨_, rfl, ?_⟩; go_frame) | ((with_reducible refine Hp.lda H ?_); refine ⟨rfl, by kernel_rfl, ?_⟩; refine ⟨_, s_look rfl, ?_⟩; refine ⟨_, rfl, ?_⟩; ((repeat ((fail_if_success refine ⟨_, _, _, .z, ?_⟩); refine hs ?_)); refine ⟨_, _, _, .z, ?_⟩); refine ⟨rfl, ?_⟩; go_frame) | ((with_reducible refine Hp.lds H ?_); refine ⟨rfl, by kernel_rfl, ?_⟩; refine ⟨_, s_look rfl, ?_⟩; refine ⟨_, _, rfl, ?_⟩; ((repeat ((fail_if_success refine ⟨_, _, _, .z, ?_⟩); refine hs ?_)); refine ⟨_, _, _, .z, ?_⟩); (first | refine ⟨[_, _], rfl, rfl, ?_⟩ | refine ⟨[_, _, _, _], rfl, rfl, ?_⟩ | refine ⟨[_, _, _, _, _, _, _], rfl, rfl, ?_⟩ | refine ⟨[_, _, _], rfl, rfl, ?_⟩ | (fail)); go_frame) | (fail) | (fail) | (fail) | ((with_reducible refine (nnew_yes (m : Int) _ hcn).mono ?_); rintro _ wD ⟨g, rfl, H0⟩; have HN := NetZ.new H0; clear H0))
        go_ret
        exact ⟨rfl, hbW.trans (HN.below.mono hbW.size)⟩
    · go_enter Tryd.func6, Tryd.ntmps6
      go_wp2_with (first | (fail) | ((with_reducible refine Hp.ld H ?_); refine ⟨rfl, ?_⟩; refine ⟨c_look rfl, ?_⟩; refine ⟨_, _, rfl, ?_⟩; ((repeat ((fail_if_success refine ⟨_, _, _, .z, ?_⟩); refine hs ?_)); refine ⟨_, _, _, .z, ?_⟩); refine ⟨_, rfl, ?_⟩; go_frame) | ((with_reducible refine Hp.lda H ?_); refine ⟨rfl, by kernel_rfl, ?_⟩; refine ⟨_, s_look rfl, ?_⟩; refine ⟨_, rfl, ?_⟩; ((repeat ((fail_if_success refine ⟨_, _, _, .z, ?_⟩); refine hs ?_)); refine ⟨_, _, _, .z, ?_⟩); refine ⟨rfl, ?_⟩; go_frame) | ((with_reducible refine Hp.lds H ?_); refine ⟨rfl, by kernel_rfl, ?_⟩; refine ⟨_, s_look rfl, ?_⟩; refine ⟨_, _, rfl, ?_⟩; ((repeat ((fail_if_success refine ⟨_, _, _, .z, ?_⟩); refine hs ?_)); refine ⟨_, _, _, .z, ?_⟩); (first | refine ⟨[_, _], rfl, rfl, ?_⟩ | refine ⟨[_, _, _, _], rfl, rfl, ?_⟩ | refine ⟨[_, _, _, _, _, _, _], rfl, rfl, ?_⟩ | refine ⟨[_, _, _], rfl, rfl, ?_⟩ | (fail)); go_frame) | (fail) | (fail) | (fail) | ((with_reducible refine (awake28_any _ hF).mono ?_); rintro _ wA ⟨rfl, hbA⟩) | ((with_reducible refine (HGA.out _ hbA).mono ?_); rintro _ wB ⟨rfl, hbB⟩))
      go_ret
      exact ⟨rfl, hbA.trans (hbB.mono hbA.size)⟩
  · rw [hg] at HGA
    go_enter Tryd.func6, Tryd.ntmps6
    go_wp2_with (first | (fail) | ((with_reducible refine Hp.ld H ?_); refine ⟨rfl, ?_⟩; refine ⟨c_look rfl, ?_⟩; refine ⟨_, _, rfl, ?_⟩; ((repeat ((fail_if_success refine ⟨_, _, _, .z, ?_⟩); refine hs ?_)); refine ⟨_, _, _, .z, ?_⟩); refine ⟨_, rfl, ?_⟩; go_frame) | ((with_reducible refine Hp.lda H ?_); refine ⟨rfl, by kernel_rfl, ?_⟩; refine ⟨_, s_look rfl, ?_⟩; refine ⟨_, rfl, ?_⟩; ((repeat ((fail_if_success refine ⟨_, _, _, .z, ?_⟩); refine hs ?_)); refine ⟨_, _, _, .z, ?_⟩); refine ⟨rfl, ?_⟩; go_frame) | ((with_reducible refine Hp.lds H ?_); refine ⟨rfl, by kernel_rfl, ?_⟩; refine ⟨_, s_look rfl, ?_⟩; refine ⟨_, _, rfl, ?_⟩; ((repeat ((fail_if_success refine ⟨_, _, _, .z, ?_⟩); refine hs ?_)); refine ⟨_, _, _, .z, ?_⟩); (first | refine ⟨[_, _], rfl, rfl, ?_⟩ | refine ⟨[_, _, _, _], rfl, rfl, ?_⟩ | refine ⟨[_, _, _, _, _, _, _], rfl, rfl, ?_⟩ | refine ⟨[_, _, _], rfl, rfl, ?_⟩ | (fail)); go_frame) | (fail) | (fail) | (fail) | ((with_reducible refine (awake28_any _ hF).mono ?_); rintro _ wA ⟨rfl, hbA⟩) | ((with_reducible refine (HGA.out _ hbA).mono ?_); rintro _ wB ⟨rfl, hbB⟩))
    go_ret
    exact ⟨rfl, hbA.trans (hbB.mono hbA.size)⟩
end Go.Proofs.YtiieakndjheknaaDoor
