/-
  THE WALK OF the law NetPlays.
-/
import Derived.Test.YtiieakndjheknaaDoorPk7
import Derived.Test.YtiieakndjheknaaDoorNpSend
namespace Go.Proofs.YtiieakndjheknaaDoor
set_option maxRecDepth 100000
open Go.RowKit
set_option linter.unusedVariables false
set_option linter.unusedSimpArgs false
set_option maxHeartbeats 40000000 in
theorem netPlays_walk (n : Int) (A : Option Addr) (c : Nat) (ac : List Ac) (w : World) (hF : FldW w) (b0 : -9223372036854775808 ≤ n) (b1 : n ≤ 9223372036854775807) (hr : RdR acC 30 w A ac) (hok : ∀ x ∈ ac, AcOk w x) (hc : ac.length ≤ c) (hm : c ≤ maxLen) :
    Calls Tryd.prog 4 #[.int .i64 n, .slice A ac.length c] w (RetV w (.bool true)) := by
  have HGA : Hid (∀ w', Below w.heap.size w w' → Calls Tryd.prog 17 #[.slice A ac.length c] w' (RetV w' (.bool (grA ac)))) := Lib.hid (fun w' hb => great28_any A c ac w' (hr.below hb) (fun x hx => (hok x hx).below hb))
  cases hg : grA ac
  · rw [hg] at HGA
    obtain ⟨hgl0, hgl⟩ := grA_no hg
    cases hcn : crowdB n
    · go_enter Tryd.func4, Tryd.ntmps4
      go_wp2_with (first | ((with_reducible refine (HGA.out _ (Below.refl _ _)).mono ?_); rintro _ wB ⟨rfl, hbB⟩) | ((with_reducible refine (nnew_no n _ hcn).mono ?_); rintro _ wC ⟨rfl, hbC⟩) | ((with_reducible refine (rnew_no n _ hcn).mono ?_); rintro _ wD ⟨rfl, hbD⟩))
      go_ret
      exact ⟨rfl, hbB.trans ((hbC.mono hbB.size).trans (hbD.mono (Nat.le_trans hbB.size hbC.size)))⟩
    · go_enter Tryd.func4, Tryd.ntmps4
      go_wp2_with (first | ((with_reducible refine (HGA.out _ (Below.refl _ _)).mono ?_); rintro _ wB ⟨rfl, hbB⟩) | ((with_reducible refine (nnew_yes n _ hcn).mono ?_); rintro _ wC ⟨g, rfl, H0⟩) | ((with_reducible refine (rnew_yes n _ hcn).mono ?_); rintro _ wD ⟨gw, rfl, H1⟩))
      have hFC : FldW wB := hF.below hbB
      have hrC : RdR acC 30 wB A ac := hr.below hbB
      have hokC : ∀ x ∈ ac, AcOk wB x := fun x hx => (hok x hx).below hbB
      have hat : PnRel wB g gw n ac.length (.int .i64 (0 : Nat)) wD := ⟨0, cut0, [], [], rfl, Nat.zero_le _, PlZ.new (fun x y => (cutB_0 n x y).symm) (H1.onto H0)⟩
      clear hr hok hF HGA H0 H1
      go_loopw [8] (fun v8 wr => PnRel wB g gw n ac.length v8 wr) (fun v _ => ac.length - (intOf v).toNat)
      case atStart => exact hat
      case round =>
        clear hat
        obtain ⟨i, cut, cs, Z, rfl, hi, HP⟩ := hrel
        by_cases hlt : i < ac.length
        · obtain ⟨bA, oA, rfl, hrow⟩ := ac_row hrC hlt
          obtain ⟨hk8, hmn, hmr, haI, hbI⟩ := hokC ac[i] (List.getElem_mem hlt)
          have hgr := grM_no (hgl ac[i] (List.getElem_mem hlt))
          have hox : OkX ac[i].x := ⟨hmr.n1, hmr.n2, hmn, hmr.ok, Nat.le_trans (hmr.n1 ▸ hgr.2.1) (by decide), Nat.le_trans (hmr.n2 ▸ hgr.1) (by decide)⟩
          have hi1 : IntKind.i64.wrap ((i : Int) + 1) = ((i + 1 : Nat) : Int) := IntWalk.i64_in _ (by omega)
          have haM : ac[i].a ≤ 9223372036854775807 := haI.2
          obtain ⟨K, hK⟩ : ∃ K : Nat, ac[i].k = K := ⟨ac[i].k.toNat, by omega⟩
          obtain ⟨q, hq⟩ : ∃ q : Nat, K % 10 = q := ⟨_, rfl⟩
          have hq1 : (K : Int).tmod 10 = (q : Int) := by rw [← hq]; rfl
          have hq10 : q < 10 := by omega
          have hqw : IntKind.u8.wrap (q : Int) = (q : Int) := IntWalk.u8_in _ (by omega)
          obtain ⟨V, hV⟩ : ∃ V : Ac, ac[i] = V := ⟨_, rfl⟩
          rw [hV] at hrow hK haM hox hmr
          clear hmn haI hbI hk8 hq hV hgr
          have hi3 : i < 300 := by omega
          have hVk : (acC V)[0]? = some (.int .u8 (K : Int)) := by show some (Value.int .u8 V.k) = _; rw [hK]
          go_upto_block 2 with (first | ((with_reducible refine PlZ.ldrO HP ?_); refine ⟨rfl, by kernel_rfl, _, _, rfl, acC V, hrow, s_nAct, ?_⟩; go_frame) | ((with_reducible refine PlZ.allo HP ?_); refine ⟨rfl, _, z_nAct, ?_⟩; (clear HP; intro g9 w1 HP); go_frame) | ((with_reducible refine PlZ.sta HP ?_); refine ⟨rfl, _, s_nAct, rfl, acC V, rfl, rfl, rfl, rfl, ?_⟩; (clear HP; intro w1 HP); go_frame) | ((with_reducible refine PlZ.ldc HP ?_); refine ⟨rfl, c_u8, _, _, rfl, 0, _, _, rfl, .int .u8 (K : Int), hVk, ?_⟩; go_frame))
          go_cut [] (fun wx => MpRel wB g gw n i g9 V wx)
          case first =>
            clear hVk hrow hK
            have hkind : q < 4 ∨ q = 4 ∨ q = 5 ∨ q = 6 ∨ q = 7 ∨ q = 8 ∨ q = 9 := by omega
            rcases hkind with hk | hk | hk | hk | hk | hk | hk
            · exact pw_send hk hFC hcn hi3 haM hox hmr HP (fun _ _ _ _ _ h => h) (by assumption) (by assumption)
            · exact pw_take hk hFC hcn hi3 haM hox hmr HP (fun _ _ _ _ _ h => h) (by assumption) (by assumption)
            · exact pw_copy hk hFC hcn hi3 haM hox hmr HP (fun _ _ _ _ _ h => h) (by assumption) (by assumption)
            · exact pw_drop hk hFC hcn hi3 haM hox hmr HP (fun _ _ _ _ _ h => h) (by assumption) (by assumption)
            · exact pw_cut hk hFC hcn hi3 haM hox hmr HP (fun _ _ _ _ _ h => h) (by assumption) (by assumption)
            · exact pw_heal hk hFC hcn hi3 haM hox hmr HP (fun _ _ _ _ _ h => h) (by assumption) (by assumption)
            · exact pw_none hk hFC hcn hi3 haM hox hmr HP (fun _ _ _ _ _ h => h) (by assumption) (by assumption)
          case rest =>
            clear HP hVk hrow hK
            obtain ⟨cut, cs, Z, HP⟩ := hcut
            as_aux_lemma =>
              go_wp2_with (first | ((with_reducible refine (pall_o HP hcn).mono ?_); rintro _ w1 ⟨Ao, co, out, N, Z2, rfl, ho, hN, hZs, HP2⟩; clear HP hZs; (have HP := HP2); clear HP2))
              have hib : i + 1 ≤ 1000 := by omega
              have hl200 : out.length ≤ 200 := by have := HP.len; rwa [← ho, List.length_map] at this
              obtain ⟨A6, c6, fl6, Aw, cw, flw, B, d, ps, e1, e2, e3, e4, r1, r2, r3, r4, r5, r6, H⟩ := HP
              have hpl : ps.length ≤ 1000 := Nat.le_trans r4 hib
              have hcp : cutP ps V.a V.b = cutB n cut V.a V.b := r6 _ _
              obtain ⟨rc, hrc⟩ : ∃ r, cutB n cut V.a V.b = r := ⟨_, rfl⟩
              rw [hrc] at hcp
              have hsx : out.map cx = flw.map cx := ho.trans r1.symm
              have H2 : Hp wB w1 (netI g n A6 fl6.length c6 cut :: mwI A6 c6 fl6 :: rfI gw n Aw flw.length cw B ps.length d :: mwI Aw cw flw :: prI B d ps :: .blk g9 58 (acC V) :: mwI Ao co out :: (N ++ Z2)) := H
              clear H
              have H := H2
              clear H2
              have sN : N ⊆ netI g n A6 fl6.length c6 cut :: mwI A6 c6 fl6 :: rfI gw n Aw flw.length cw B ps.length d :: mwI Aw cw flw :: prI B d ps :: .blk g9 58 (acC V) :: mwI Ao co out :: (N ++ Z2) := fun y hy => sub2 (sub5 (List.mem_append_left _ hy))
              have sZ : Z2 ⊆ netI g n A6 fl6.length c6 cut :: mwI A6 c6 fl6 :: rfI gw n Aw flw.length cw B ps.length d :: mwI Aw cw flw :: prI B d ps :: .blk g9 58 (acC V) :: mwI Ao co out :: (N ++ Z2) := fun y hy => sub2 (sub5 (List.mem_append_right _ hy))
              have ho1k : out.length ≤ 1000 := Nat.le_trans hl200 (by decide)
              ((with_reducible refine wp_region_hpK H (by kernel_rfl) (by kernel_rfl) ?_); intro _ KQ hKQ; (repeat (first | go_big_quiet_skip | ((with_reducible refine hq_ld ?_); refine ⟨rfl, ?_⟩; refine ⟨c_look rfl, ?_⟩; refine ⟨_, _, rfl, ?_⟩; (first | refine ⟨_, _, _, .z, ?_⟩ | refine ⟨_, _, _, .s .z, ?_⟩ | refine ⟨_, _, _, .s (.s .z), ?_⟩ | refine ⟨_, _, _, .s (.s (.s .z)), ?_⟩ | refine ⟨_, _, _, .s (.s (.s (.s .z))), ?_⟩ | refine ⟨_, _, _, .s (.s (.s (.s (.s .z)))), ?_⟩); refine ⟨_, rfl, ?_⟩; go_frame) | ((with_reducible refine hq_lda ?_); refine ⟨rfl, by kernel_rfl, ?_⟩; refine ⟨_, s_look rfl, ?_⟩; refine ⟨_, rfl, ?_⟩; (first | refine ⟨_, _, _, .z, ?_⟩ | refine ⟨_, _, _, .s .z, ?_⟩ | refine ⟨_, _, _, .s (.s .z), ?_⟩ | refine ⟨_, _, _, .s (.s (.s .z)), ?_⟩ | refine ⟨_, _, _, .s (.s (.s (.s .z))), ?_⟩ | refine ⟨_, _, _, .s (.s (.s (.s (.s .z)))), ?_⟩); refine ⟨rfl, ?_⟩; go_frame) | ((with_reducible refine hq_lds ?_); refine ⟨rfl, by kernel_rfl, ?_⟩; refine ⟨_, s_look rfl, ?_⟩; refine ⟨_, _, rfl, ?_⟩; (first | refine ⟨_, _, _, .z, ?_⟩ | refine ⟨_, _, _, .s .z, ?_⟩ | refine ⟨_, _, _, .s (.s .z), ?_⟩ | refine ⟨_, _, _, .s (.s (.s .z)), ?_⟩ | refine ⟨_, _, _, .s (.s (.s (.s .z))), ?_⟩ | refine ⟨_, _, _, .s (.s (.s (.s (.s .z)))), ?_⟩); (first | refine ⟨[_, _], rfl, rfl, ?_⟩ | refine ⟨[_, _, _, _], rfl, rfl, ?_⟩ | refine ⟨[_, _, _, _, _, _, _], rfl, rfl, ?_⟩ | refine ⟨[_, _, _], rfl, rfl, ?_⟩ | (fail)); go_frame) | (fail) | go_big_quiet_step ((first | (with_reducible exact rsames_q 6 3 rfl rfl hsx hN r2 sN sZ ho1k) | (with_reducible exact niscut_q hcn e4 hrc) | (with_reducible exact riscut_q5 hpl hcp))))); (with_reducible refine wpQuiet_nil (hKQ _ ?_)); clear hKQ; clear KQ H; intro w1 H)
              have HP : PlZ wB w1 g gw n cut cs cut cs (i + 1) (.blk g9 58 (acC V) :: mwI Ao co out :: N) Z2 := ⟨A6, c6, fl6, Aw, cw, flw, B, d, ps, e1, e2, e3, e4, r1, r2, r3, r4, r5, r6, H⟩
              have hW := hN.weak
              clear H sN sZ hsx hcp hrc hpl e1 e2 e3 e4 r1 r2 r3 r4 r5 r6 hN ho ho1k
              have hatS : WrRel wB g gw n cut cs (i + 1) (.blk g9 58 (acC V)) Ao co out Z2 out.length (.int .i64 (0 : Nat)) w1 := ⟨0, N, rfl, Nat.zero_le _, hW, HP⟩
              clear HP hW
              go_wp2_with (fail)
              go_loopw [19] (fun v wr => WrRel wB g gw n cut cs (i + 1) (.blk g9 58 (acC V)) Ao co out Z2 out.length v wr) (fun v _ => out.length - (intOf v).toNat)
              case atStart => exact hatS
              case round =>
                clear hatS
                obtain ⟨k, N1, rfl, hk, hW, HP⟩ := hrel
                by_cases hkl : k < out.length
                · have hk2 : IntKind.i64.wrap ((k : Int) + 1) = ((k + 1 : Nat) : Int) := IntWalk.i64_in _ (by omega)
                  obtain ⟨gO, rfl, _⟩ := HP.fld (List.mem_cons_of_mem _ List.mem_cons_self) hkl
                  obtain ⟨yA, hyA⟩ : ∃ y, out[k].m.yA = y := ⟨_, rfl⟩
                  obtain ⟨yn, hyn⟩ : ∃ y, out[k].m.yn = y := ⟨_, rfl⟩
                  obtain ⟨yc, hyc⟩ : ∃ y, out[k].m.yc = y := ⟨_, rfl⟩
                  obtain ⟨rA, hrA⟩ : ∃ y, out[k].m.rA = y := ⟨_, rfl⟩
                  obtain ⟨rn, hrn⟩ : ∃ y, out[k].m.rn = y := ⟨_, rfl⟩
                  obtain ⟨rc2, hrc2⟩ : ∃ y, out[k].m.rc = y := ⟨_, rfl⟩
                  have hyB : ∀ (N : List Item), HeldW N out → ∃ (i : Nat) (l : List UInt8), l.length = yn ∧ N[i]? = some (.bytes yA yc l) := fun N h => by
                    have := (h _ (List.getElem_mem hkl)).1
                    rwa [hyA, hyn, hyc] at this
                  have hrB : ∀ (N : List Item), HeldW N out → ∃ (i : Nat) (xs : List Value), xs.length = rn * 11 ∧ N[i]? = some (.own 71 11 rA rn rc2 xs) := fun N h => by
                    have := (h _ (List.getElem_mem hkl)).2
                    rwa [hrA, hrn, hrc2] at this
                  have hfY : ∀ (wr : World) (N : List Item), PlZ wB wr g gw n cut cs cut cs (i + 1) (.blk g9 58 (acC V) :: mwI (some ⟨gO, 0, none⟩) co out :: N) Z2 → wr.cell? ⟨gO, k * 27 + 26, none⟩ = some (.slice yA yn yc) := fun wr N h => by
                    obtain ⟨g1, e, hf⟩ := h.fld (List.mem_cons_of_mem _ List.mem_cons_self) hkl
                    injection e with e
                    injection e with e1 e2
                    subst e1
                    rw [← hyA, ← hyn, ← hyc]
                    exact hf 26 _ rfl
                  have hfR : ∀ (wr : World) (N : List Item), PlZ wB wr g gw n cut cs cut cs (i + 1) (.blk g9 58 (acC V) :: mwI (some ⟨gO, 0, none⟩) co out :: N) Z2 → wr.cell? ⟨gO, k * 27 + 25, none⟩ = some (.slice rA rn rc2) := fun wr N h => by
                    obtain ⟨g1, e, hf⟩ := h.fld (List.mem_cons_of_mem _ List.mem_cons_self) hkl
                    injection e with e
                    injection e with e1 e2
                    subst e1
                    rw [← hrA, ← hrn, ← hrc2]
                    exact hf 25 _ rfl
                  obtain ⟨hyb, hrb⟩ : yn ≤ 9223372036854775807 ∧ rn ≤ 9223372036854775807 := by
                    obtain ⟨ib, lb, q1, q2⟩ := hyB _ hW
                    obtain ⟨ir, xr, q3, q4⟩ := hrB _ hW
                    have h1 : lb.length ≤ yc ∧ yc ≤ maxLen := own_caps (HP.hold (List.mem_append_left _ (List.mem_cons_of_mem _ (List.mem_cons_of_mem _ (List.mem_of_getElem? q2)))))
                    have h2 : rn ≤ rc2 ∧ rc2 ≤ maxLen := own_caps (HP.hold (List.mem_append_left _ (List.mem_cons_of_mem _ (List.mem_cons_of_mem _ (List.mem_of_getElem? q4)))))
                    unfold maxLen at h1 h2
                    omega
                  have HYB := Lib.hid hyB
                  have HRB := Lib.hid hrB
                  have HFY := Lib.hid hfY
                  have HFR := Lib.hid hfR
                  clear hyB hrB hfY hfR hyA hyn hyc hrA hrn hrc2
                  have hatY : WrRel wB g gw n cut cs (i + 1) (.blk g9 58 (acC V)) (some ⟨gO, 0, none⟩) co out Z2 yn (.int .i64 (0 : Nat)) wr := ⟨0, N1, rfl, Nat.zero_le _, hW, HP⟩
                  clear HP hW
                  go_wp2_with (fail)
                  go_loopw [20] (fun v wr => WrRel wB g gw n cut cs (i + 1) (.blk g9 58 (acC V)) (some ⟨gO, 0, none⟩) co out Z2 yn v wr) (fun v _ => yn - (intOf v).toNat)
                  case atStart => exact hatY
                  case round =>
                    clear hatY
                    obtain ⟨j, N2, rfl, hj, hW, HP⟩ := hrel
                    have hcell := HFY.out _ _ HP
                    by_cases hjl : j < yn
                    · have hj1 : IntKind.i64.wrap ((j : Int) + 1) = ((j + 1 : Nat) : Int) := IntWalk.i64_in _ (by omega)
                      obtain ⟨ib, lb, hlb, hib2⟩ := HYB.out _ hW
                      have how : Own wr wB.heap.size yA yc lb := HP.hold (List.mem_append_left _ (List.mem_cons_of_mem _ (List.mem_cons_of_mem _ (List.mem_of_getElem? hib2))))
                      obtain ⟨gB, rfl⟩ := own_at (A := yA) (m := lb.length) (c := yc) how (by omega)
                      have hjl2 : j < lb.length := by omega
                      have hby := how.cell j hjl2
                      have hby2 : 0 ≤ (lb[j].toNat : Int) ∧ (lb[j].toNat : Int) < 256 := ⟨by omega, by have := lb[j].toNat_lt; omega⟩
                      have HW2 := Lib.hid (fun (k : Nat) (u : UInt8) => hW.setB hib2 k u)
                      have HLB := Lib.hid hlb
                      clear how hlb hW
                      go_wp2_with (first | ((with_reducible refine wl_ldc ?_); refine ⟨rfl, c_bytes, _, rfl, _, hcell, ?_⟩; go_frame) | ((with_reducible refine wl_ldc ?_); refine ⟨rfl, c_u8, _, rfl, _, hby, ?_⟩; go_frame) | ((with_reducible refine PlZ.stB HP ?_); refine ⟨rfl, _, _, rfl, _, rfl, ⟨by omega, by omega⟩, ib + 2, _, _, hib2, hjl2, ?_⟩; (clear HP; intro u w1 HP); go_frame))
                      go_roundw
                      case rel => exact ⟨j + 1, _, rfl, hjl, HW2.out _ u, HP⟩
                      case measure => show yn - (j + 1) < yn - j; omega
                    · obtain rfl : j = yn := by omega
                      have hjj : decide ((j : Int) < (j : Int)) = false := decide_eq_false (by omega)
                      have hatR : WrRel wB g gw n cut cs (i + 1) (.blk g9 58 (acC V)) (some ⟨gO, 0, none⟩) co out Z2 rn (.int .i64 (0 : Nat)) wr := ⟨0, N2, rfl, Nat.zero_le _, hW, HP⟩
                      clear HP hW
                      go_wp2_with (first | ((with_reducible refine wl_ldc ?_); refine ⟨rfl, c_bytes, _, rfl, _, hcell, ?_⟩; go_frame))
                      go_loopw [21] (fun v wr => WrRel wB g gw n cut cs (i + 1) (.blk g9 58 (acC V)) (some ⟨gO, 0, none⟩) co out Z2 rn v wr) (fun v _ => rn - (intOf v).toNat)
                      case atStart => exact hatR
                      case round =>
                        clear hatR
                        obtain ⟨j2, N3, rfl, hj2, hW, HP⟩ := hrel
                        have hcel2 := HFR.out _ _ HP
                        by_cases hjl2 : j2 < rn
                        · have hj3 : IntKind.i64.wrap ((j2 : Int) + 1) = ((j2 + 1 : Nat) : Int) := IntWalk.i64_in _ (by omega)
                          obtain ⟨ir, xr, hxr, hir⟩ := HRB.out _ hW
                          have how : wr.ownsRow wB.heap.size 71 11 (.slice rA rn rc2) rn xr := HP.hold (List.mem_append_left _ (List.mem_cons_of_mem _ (List.mem_cons_of_mem _ (List.mem_of_getElem? hir))))
                          obtain ⟨gR, rfl⟩ := own_at how (by omega)
                          have hoff : j2 * 11 < xr.length := by rw [hxr]; omega
                          have HW2 := Lib.hid (fun (k : Nat) (u : Value) => hW.setR hir k u)
                          clear how hW
                          go_wp2_with (first | ((with_reducible refine wl_ldc ?_); refine ⟨rfl, c_reps, _, rfl, _, hcel2, ?_⟩; go_frame) | ((with_reducible refine PlZ.stR HP ?_); refine ⟨rfl, _, _, rfl, _, rfl, ir + 2, _, _, _, hir, hxr, hoff, ?_⟩; (clear HP; intro w1 HP); go_frame))
                          go_roundw
                          case rel => exact ⟨j2 + 1, _, rfl, hjl2, HW2.out _ _, HP⟩
                          case measure => show rn - (j2 + 1) < rn - j2; omega
                        · obtain rfl : j2 = rn := by omega
                          have hjj2 : decide ((j2 : Int) < (j2 : Int)) = false := decide_eq_false (by omega)
                          go_wp2_with (first | ((with_reducible refine wl_ldc ?_); refine ⟨rfl, c_reps, _, rfl, _, hcel2, ?_⟩; go_frame))
                          go_roundw
                          case rel => exact ⟨k + 1, N3, rfl, hkl, hW, HP⟩
                          case measure => show out.length - (k + 1) < out.length - k; omega
                · obtain rfl : k = out.length := by omega
                  have hjj : decide ((out.length : Int) < (out.length : Int)) = false := decide_eq_false (by omega)
                  go_wp2_with (fail)
                  go_roundw
                  case rel => exact ⟨i + 1, cut, cs, _, rfl, hlt, HP.sub (List.nil_sublist _)⟩
                  case measure => show ac.length - (i + 1) < ac.length - i; omega
        · obtain rfl : i = ac.length := by omega
          have hjj : decide ((ac.length : Int) < (ac.length : Int)) = false := decide_eq_false (by omega)
          go_wp2_with (fail)
          go_ret
          exact ⟨rfl, hbB.trans (HP.below.mono hbB.size)⟩
  · rw [hg] at HGA
    go_enter Tryd.func4, Tryd.ntmps4
    go_wp2_with (first | ((with_reducible refine (HGA.out _ (Below.refl _ _)).mono ?_); rintro _ wB ⟨rfl, hbB⟩))
    go_ret
    exact ⟨rfl, hbB⟩
end Go.Proofs.YtiieakndjheknaaDoor
