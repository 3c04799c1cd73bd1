/-
  NetOnce: the switch's way 'take'.
-/
import Derived.Test.YtiieakndjheknaaDoorNtOw
namespace Go.Proofs.YtiieakndjheknaaDoor
set_option maxRecDepth 100000
open Go.RowKit
set_option linter.unusedVariables false
set_option linter.unusedSimpArgs false
set_option maxHeartbeats 40000000 in
theorem sw_take {wB w1 : World} {g g9 m i x y q : Nat} {V : Ac} {cut : List Bool} {cs : List MX} {Af : Option Addr} {cf : Nat} {Z : List Item} {J K' : Act → World → Prop} {Q' : Exit → Act → World → Prop} {c1 c2 c3 e4 c6 e12 e13 e14 e15 e16 e17 e18 e19 e20 e21 c22 c23 c24 c25 c26 c27 c28 c29 c30 c31 c32 c33 c34 c35 c36 c37 c38 c39 c40 e41 e42 e43 e44 e45 e46 e47 e48 e49 e50 e51 e52 e53 e54 e55 e56 e57 e58 e59 e60 e61 e62 e63 e64 e65 e66 e68 e69 e70 e71 e72 e73 e74 e75 e76 e77 e78 e79 e80 e81 e82 e83 e84 e85 e86 e87 e88 e89 e90 e91 e92 e93 e94 e95 e96 e97 e98 e99 e100 e101 e102 e103 e104 e105 e106 e107 e108 e109 e110 e111 e112 e113 e114 e115 e116 e117 e118 e119 e120 e121 e122 e123 e124 e125 e126 e127 e128 e129 e130 e131 e132 e133 e134 e135 e136 e137 e138 e139 e140 e141 e142 e143 e144 e145 e146 e147 e148 e149 e150 e151 e152 e153 e154 e155 e156 e157 e158 e159 e160 e161 e162 e163 e164 e165 e166 e167 e168 e169 e170 e171 e172 e173 e174 e175 e176 e177 e178 e179 e180 e181 e182 e183 e184 e185 e186 e187 e188 e189 e190 e191 e192 e193 e194 e195 e196 e197 e198 e199 e200 e201 e202 e203 e204 e205 e206 e207 e208 e209 e210 e211 e212 e213 e214 e215 e216 e217 e218 e219 e220 e221 e222 e223 e224 e225 e226 e227 e228 e229 e230 e231 e232 e233 e234 e235 e236 e237 e238 e239 e240 e241 e242 e243 e244 e245 e246 e247 e248 e249 e250 e251 e252 e253 e254 e255 e256 e257 e258 e259 e260 e261 e262 e263 e264 e265 e266 e267 e268 e269 e270 e271 e272 e273 e274 e275 e276 e277 : Value}
    (hk : q = 4 ∨ q = 6) (hFC : FldW wB) (hcn : crowdB (m : Int) = true) (hm7 : m ≤ 7) (hxm : x < m) (hym : y < m) (hi3 : i < 300) (haM : V.a ≤ 9223372036854775807) (hi1 : IntKind.i64.wrap ((i : Int) + 1) = ((i : Int) + 1)) (hI : OI m cut cs) (HN : NetZ wB w1 g (m : Int) cut cs [.blk g9 58 (acC V), mwI Af cf cs] Z) (hQp : ∀ (c : List PanicEntry) (d : Tmp) (v : Value) (a : Act) (w : World), Q' (.panic c) (a.put (some d) v) w → Q' (.panic c) a w) (hM : ∀ (a' : Act) (w' : World), Met J a' w' → K' a' w') (hJ : ∀ (a' : Act) (w' : World), MdFr wB g g9 m i x y q c1 c2 c3 c6 c22 c23 c24 c25 c26 c27 c28 c29 c30 c31 c32 c33 c34 c35 c36 c37 c38 c39 c40 a' w' → J a' w') :
    Code.wp Tryd.prog sw2 (Exit.then K' Q') ⟨#[.int .i64 (m : Int), c1, c2, c3, e4, .pointer (some ⟨g, 0, none⟩), c6, .slice Af cs.length cf, .int .i64 (i : Int), .pointer (some ⟨g9, 0, none⟩), .int .i64 (x : Int), .int .i64 (y : Int), e12, e13, e14, e15, e16, e17, e18, e19, e20, e21, c22, c23, c24, c25, c26, c27, c28, c29, c30, c31, c32, c33, c34, c35, c36, c37, c38, c39, c40, e41, e42, e43, e44, e45, e46, e47, e48, e49, e50, e51, e52, e53, e54, e55, e56, e57, e58, e59, e60, e61, e62, e63, e64, e65, e66, .int .u8 (q : Int), e68, e69, e70, e71, e72, e73, e74, e75, e76, e77, e78, e79, e80, e81, e82, e83, e84, e85, e86, e87, e88, e89, e90, e91, e92, e93, e94, e95, e96, e97, e98, e99, e100, e101, e102, e103, e104, e105, e106, e107, e108, e109, e110, e111, e112, e113, e114, e115, e116, e117, e118, e119, e120, e121, e122, e123, e124, e125, e126, e127, e128, e129, e130, e131, e132, e133, e134, e135, e136, e137, e138, e139, e140, e141, e142, e143, e144, e145, e146, e147, e148, e149, e150, e151, e152, e153, e154, e155, e156, e157, e158, e159, e160, e161, e162, e163, e164, e165, e166, e167, e168, e169, e170, e171, e172, e173, e174, e175, e176, e177, e178, e179, e180, e181, e182, e183, e184, e185, e186, e187, e188, e189, e190, e191, e192, e193, e194, e195, e196, e197, e198, e199, e200, e201, e202, e203, e204, e205, e206, e207, e208, e209, e210, e211, e212, e213, e214, e215, e216, e217, e218, e219, e220, e221, e222, e223, e224, e225, e226, e227, e228, e229, e230, e231, e232, e233, e234, e235, e236, e237, e238, e239, e240, e241, e242, e243, e244, e245, e246, e247, e248, e249, e250, e251, e252, e253, e254, e255, e256, e257, e258, e259, e260, e261, e262, e263, e264, e265, e266, e267, e268, e269, e270, e271, e272, e273, e274, e275, e276, e277], []⟩ w1 := by
  have hIx : I64 (x : Int) := ⟨by omega, by omega⟩
  have hIy : I64 (y : Int) := ⟨by omega, by omega⟩
  have hii : 1 ≤ (i : Int) + 1 ∧ (i : Int) + 1 ≤ 1099511627776 := by omega
  have hVa : (acC V)[28]? = some (.int .i64 V.a) := rfl
  have hm0 : ¬ m = 0 := by omega
  conv => arg 2; whnf
  by_cases h0 : cs.length = 0
  · have dl0 : ((cs.length : Int) == 0) = true := beq_iff_eq.2 (by omega)
    have hE : natE cs = 280 := if_pos h0
    have hT : ntakL cs V.a = cs := if_pos h0
    rcases hk with rfl | rfl
    all_goals as_aux_lemma =>
      go_wp2_with (first | ((with_reducible refine NetZ.ldc HN ?_); refine ⟨rfl, c_look rfl, _, rfl, .int .i64 V.a, hVa, ?_⟩; go_frame) | ((with_reducible refine (ndrop_v HN hcn haM hT hE).mono ?_); rintro _ w1 ⟨rfl, Z2, hZs, HN2⟩; clear HN hZs; (have HN := HN2); clear HN2))
      delta MdFr at hJ
      go_meet
      case rel => exact ⟨cut, cs, Af, cf, _, by rw [h0], hI, HN.drop⟩
  · have dl0 : ((cs.length : Int) == 0) = false := beq_eq_false_iff_ne.2 (by omega)
    have hlen200 := HN.len
    obtain ⟨j, hj⟩ : ∃ j : Nat, max V.a 0 = (j : Int) := ⟨(max V.a 0).toNat, by omega⟩
    obtain ⟨k, hk0⟩ : ∃ k : Nat, j % cs.length = k := ⟨_, rfl⟩
    have hk1 : (j : Int).tmod (cs.length : Int) = (k : Int) := by rw [← hk0]; rfl
    have hkl : k < cs.length := by rw [← hk0]; exact Nat.mod_lt _ (by omega)
    have hkw : IntKind.i64.wrap (k : Int) = (k : Int) := IntWalk.i64_in _ (by omega)
    have hkw1 : IntKind.i64.wrap ((k : Int) + 1) = (k : Int) + 1 := IntWalk.i64_in _ (by omega)
    have hki : natI cs V.a = k := by unfold natI natJ; rw [hj, Int.toNat_natCast, hk0]
    have htk : ntakL cs V.a = cs.eraseIdx k := by unfold ntakL; rw [if_neg h0, hki]
    have hne : cs ≠ [] := fun h => h0 (by rw [h]; rfl)
    have hcx : cx cs[k] = cs[k] := (hI.1 _ (List.getElem_mem hkl)).cx
    have hcr := (hI.1 _ (List.getElem_mem hkl)).r
    have hI2 : OI m cut (cs.eraseIdx k) := hI.sub List.eraseIdx_subset
    have HKI := Lib.hid hki
    have HCX := Lib.hid hcx
    clear hki hcx hk0
    rcases hk with rfl | rfl
    all_goals as_aux_lemma =>
      go_upto_region 33 with (first | ((with_reducible refine NetZ.ldc HN ?_); refine ⟨rfl, c_look rfl, _, rfl, .int .i64 V.a, hVa, ?_⟩; go_frame) | ((with_reducible refine (ntake_yes HN hcn V.a haM hne htk).mono ?_); rintro _ w1 ⟨xx, Z2, hxx, rfl, hZs, hh, HN2⟩; clear HN hZs; (have HN := HN2); clear HN2) | ((obtain ⟨A6, c6, fl6, q1, q2, q3, q4, H⟩ := HN); (with_reducible refine Hp.allo (ty := 34) H ?_); refine ⟨rfl, ?_⟩; refine ⟨_, z_look rfl, ?_⟩; (clear H; intro g15 w1 H); go_frame) | ((with_reducible refine Hp.sta H ?_); refine ⟨rfl, ?_⟩; refine ⟨_, s_look rfl, ?_⟩; refine ⟨_, rfl, mgC xx.m, rfl, rfl, ?_⟩; refine ⟨_, _, _, .z, ?_⟩; refine ⟨rfl, rfl, ?_⟩; (clear H; intro w1 H; simp only [List.set] at H); go_frame))
      rw [HKI.out, List.getElem?_eq_getElem hkl] at hxx
      have hsame : sameM xx.m xx.rs xx.l cs[k].m cs[k].rs cs[k].l = true := sameX.2 (by injection hxx with hxx; rw [HCX.out, hxx])
      replace H := H.rot3
      simp only [List.cons_append, List.nil_append] at H
      obtain ⟨gF, rfl⟩ := H.rowsA 4 rfl (by omega)
      have hrw := fun y => HpS.row (L := netI g (m : Int) A6 fl6.length c6 cut :: mwI A6 c6 fl6 :: .blk g15 34 (mgC xx.m) :: .blk g9 58 (acC V) :: mwI (some ⟨gF, 0, none⟩) cf cs :: Z2) (w0 := wB) 4 rfl hkl y
      have hMS : MgS wB Z2 xx.m xx.rs xx.l := hh.S (List.mem_singleton.2 rfl) wB
      ((with_reducible refine wp_region_hpK H (by kernel_rfl) (by kernel_rfl) ?_); intro _ KQ hKQ; (repeat (first | go_big_quiet_skip | ((with_reducible refine hq_ld ?_); refine ⟨rfl, ?_⟩; refine ⟨c_look rfl, ?_⟩; refine ⟨_, _, rfl, ?_⟩; (first | refine ⟨_, _, _, .z, ?_⟩ | refine ⟨_, _, _, .s .z, ?_⟩ | refine ⟨_, _, _, .s (.s .z), ?_⟩ | refine ⟨_, _, _, .s (.s (.s .z)), ?_⟩); refine ⟨_, rfl, ?_⟩; go_frame) | ((with_reducible refine hq_lda ?_); refine ⟨rfl, by kernel_rfl, ?_⟩; refine ⟨_, s_look rfl, ?_⟩; refine ⟨_, rfl, ?_⟩; (first | refine ⟨_, _, _, .z, ?_⟩ | refine ⟨_, _, _, .s .z, ?_⟩ | refine ⟨_, _, _, .s (.s .z), ?_⟩ | refine ⟨_, _, _, .s (.s (.s .z)), ?_⟩); refine ⟨rfl, ?_⟩; go_frame) | ((with_reducible refine hq_lds ?_); refine ⟨rfl, by kernel_rfl, ?_⟩; refine ⟨_, s_look rfl, ?_⟩; refine ⟨_, _, rfl, ?_⟩; (first | refine ⟨_, _, _, .z, ?_⟩ | refine ⟨_, _, _, .s .z, ?_⟩ | refine ⟨_, _, _, .s (.s .z), ?_⟩ | refine ⟨_, _, _, .s (.s (.s .z)), ?_⟩); (first | refine ⟨[_, _], rfl, rfl, ?_⟩ | refine ⟨[_, _, _, _], rfl, rfl, ?_⟩ | refine ⟨[_, _, _, _, _, _, _], rfl, rfl, ?_⟩ | refine ⟨[_, _, _], rfl, rfl, ?_⟩ | (fail)); go_frame) | ((with_reducible refine hq_bdl ?_); (fail); go_frame) | ((with_reducible refine hq_ldRw ?_); refine ⟨rfl, by kernel_rfl, _, _, rfl, mgC cs[k].m, hrw, s_Msg, ?_⟩; go_frame) | go_big_quiet_step ((with_reducible exact hq_call (msame_v hsame (hMS.at_ _ sub5) (hcr _)))))); (with_reducible refine wpQuiet_nil (hKQ _ ?_)); clear hKQ; clear KQ H; intro w1 H)
      go_wp2_with (first | ((with_reducible refine Hp.box H ?_); (first | refine ⟨rfl, [.pointer _], rfl, ?_⟩ | refine ⟨rfl, [.int _ _], rfl, ?_⟩ | refine ⟨rfl, [.slice _ _ _], rfl, ?_⟩ | refine ⟨rfl, [.bool _], rfl, ?_⟩ | refine ⟨rfl, [.string _], rfl, ?_⟩ | refine ⟨rfl, _, rfl, ?_⟩); (clear H; intro g1 w1 H); go_frame) | (fail) | ((with_reducible refine Hp.ld H ?_); refine ⟨rfl, ?_⟩; refine ⟨c_look rfl, ?_⟩; refine ⟨_, _, rfl, ?_⟩; (first | refine ⟨_, _, _, .z, ?_⟩ | refine ⟨_, _, _, .s .z, ?_⟩ | refine ⟨_, _, _, .s (.s .z), ?_⟩ | refine ⟨_, _, _, .s (.s (.s .z)), ?_⟩); refine ⟨_, rfl, ?_⟩; go_frame) | ((with_reducible refine Hp.lda H ?_); refine ⟨rfl, by kernel_rfl, ?_⟩; refine ⟨_, s_look rfl, ?_⟩; refine ⟨_, rfl, ?_⟩; (first | refine ⟨_, _, _, .z, ?_⟩ | refine ⟨_, _, _, .s .z, ?_⟩ | refine ⟨_, _, _, .s (.s .z), ?_⟩ | refine ⟨_, _, _, .s (.s (.s .z)), ?_⟩); refine ⟨rfl, ?_⟩; go_frame) | ((with_reducible refine Hp.lds H ?_); refine ⟨rfl, by kernel_rfl, ?_⟩; refine ⟨_, s_look rfl, ?_⟩; refine ⟨_, _, rfl, ?_⟩; (first | refine ⟨_, _, _, .z, ?_⟩ | refine ⟨_, _, _, .s .z, ?_⟩ | refine ⟨_, _, _, .s (.s .z), ?_⟩ | refine ⟨_, _, _, .s (.s (.s .z)), ?_⟩); (first | refine ⟨[_, _], rfl, rfl, ?_⟩ | refine ⟨[_, _, _, _], rfl, rfl, ?_⟩ | refine ⟨[_, _, _, _, _, _, _], rfl, rfl, ?_⟩ | refine ⟨[_, _, _], rfl, rfl, ?_⟩ | (fail)); go_frame) | ((with_reducible refine Hp.sto H ?_); refine ⟨rfl, ?_⟩; refine ⟨c_look rfl, ?_⟩; refine ⟨_, _, rfl, ?_⟩; (first | refine ⟨_, _, _, .z, ?_⟩ | refine ⟨_, _, _, .s .z, ?_⟩ | refine ⟨_, _, _, .s (.s .z), ?_⟩ | refine ⟨_, _, _, .s (.s (.s .z)), ?_⟩); refine ⟨⟨_, rfl⟩, rfl, ?_⟩; (clear H; intro w1 H; simp only [List.set] at H); go_frame) | (fail) | (fail) | ((with_reducible refine Hp.bdl H ?_); (fail); go_frame) | (fail))
      have hcap := own_caps (H.holds (mwI (some ⟨gF, 0, none⟩) cf cs) (by simp))
      obtain ⟨ad, had⟩ : ∃ ad : Addr, (if cf = k + 1 then (⟨gF, 0, none⟩ : Addr) else ⟨gF, (k + 1) * 27, none⟩) = ad := ⟨_, rfl⟩
      refine hw_start (_ :: _ :: _ :: _ :: _ :: Z2) [] (by rw [List.append_nil]; exact H) (by kernel_rfl) (fun w1 H => ?_)
      rw [List.append_nil] at H
      have hS : HpW _ [] w1 := ⟨_, by rw [List.append_nil]; exact H⟩
      (refine hw_take hS 1 (by decide +kernel) (by decide +kernel) (by decide +kernel) ⟨_, rfl, rfl, ?_, ?_, fun _ _ _ h => hQp _ _ _ _ _ h, ?_⟩; rotate_left; (intro w _; go_simp; try with_reducible rfl); go_frame); (refine hw_take hS 2 (by decide +kernel) (by decide +kernel) (by decide +kernel) ⟨_, rfl, rfl, ?_, ?_, fun _ _ _ h => hQp _ _ _ _ _ h, ?_⟩; rotate_left; (intro w _; go_simp; try with_reducible rfl); go_frame)
      (refine hw_take hS 3 (by decide +kernel) (by decide +kernel) (by decide +kernel) ⟨_, rfl, rfl, _, fun w _ => ex_slH (i := k) rfl ms_u s_Msg rfl rfl rfl (by omega), fun _ _ _ h => hQp _ _ _ _ _ h, ?_⟩; go_frame)
      (refine hw_take hS 5 (by decide +kernel) (by decide +kernel) (by decide +kernel) ⟨_, rfl, rfl, ?_, ?_, fun _ _ _ h => hQp _ _ _ _ _ h, ?_⟩; rotate_left; (intro w _; go_simp; try with_reducible rfl); go_frame); (refine hw_take hS 6 (by decide +kernel) (by decide +kernel) (by decide +kernel) ⟨_, rfl, rfl, ?_, ?_, fun _ _ _ h => hQp _ _ _ _ _ h, ?_⟩; rotate_left; (intro w _; go_simp; try with_reducible rfl); go_frame); (refine hw_take hS 7 (by decide +kernel) (by decide +kernel) (by decide +kernel) ⟨_, rfl, rfl, ?_, ?_, fun _ _ _ h => hQp _ _ _ _ _ h, ?_⟩; rotate_left; (intro w _; go_simp; try with_reducible rfl); go_frame)
      (refine hw_take hS 8 (by decide +kernel) (by decide +kernel) (by decide +kernel) ⟨_, rfl, rfl, _, fun w _ => ex_slL (ad := ad) (i := k + 1) (m := (cs.drop (k + 1)).length) (c2 := cf - (k + 1)) rfl ms_u s_Msg rfl rfl (Int.natCast_succ k).symm (by omega) (by rw [List.length_drop]) rfl had, fun _ _ _ h => hQp _ _ _ _ _ h, ?_⟩; go_frame)
      clear hS
      refine hw_one 0 (by decide +kernel) ⟨_, rfl, rfl, fun K hK => ?_⟩
      refine hw_bsl0 rfl ms_u ms_i1 H (fun gn w1 H => ?_)
      refine hK _ _ ⟨_, by rw [List.append_nil]; exact H⟩ ?_
      clear hK K
      go_frame
      refine hw_one 4 (by decide +kernel) ⟨_, rfl, rfl, fun K hK => ?_⟩
      have hr1 : RdR mxC 27 w1 (some ⟨gF, 0, none⟩) (cs.take k) := (H.rd mxC_len 5 rfl).take k
      have hlk : (cs.take k).length = k := by rw [List.length_take]; omega
      obtain ⟨A7, c7, w7, hrun, H7⟩ := H.appRd mxC_len mxC_one ms_u ms_info rfl (by decide) (by decide) 37 0 rfl (some ⟨gF, 0, none⟩) cf (cs.take k) hr1 (by decide) (by omega)
      rw [hlk, Nat.zero_add] at hrun
      refine hw_turn (ex_app (u := .slice (some ⟨gn, 0, none⟩) 0 0) (v := .slice (some ⟨gF, 0, none⟩) k cf) rfl rfl rfl hrun) ?_
      refine hK _ _ ⟨_, by rw [List.append_nil]; exact H7⟩ ?_
      clear hK K hrun
      go_frame
      refine hw_one 9 (by decide +kernel) ⟨_, rfl, rfl, fun K hK => ?_⟩
      simp only [List.set_cons_zero, List.nil_append, hlk, Nat.zero_add] at H7
      have hr2 : RdR mxC 27 w7 (some ad) (cs.drop (k + 1)) := by
        by_cases hcf : cf = k + 1
        · have : cs.drop (k + 1) = [] := List.drop_eq_nil_of_le (by omega)
          rw [this]
          exact RdR.nil _ _ _ _
        · rw [if_neg hcf] at had
          subst had
          have := (H7.rd mxC_len 5 rfl : RdR mxC 27 w7 (some ⟨gF, 0, none⟩) cs).drop (k + 1)
          rwa [Nat.zero_add] at this
      obtain ⟨A8, c8, w8, hrun, H8⟩ := H7.appRd mxC_len mxC_one ms_u ms_info rfl (by decide) (by decide) 37 0 rfl (some ad) (cf - (k + 1)) (cs.drop (k + 1)) hr2 (by omega) (by rw [List.length_drop]; omega)
      refine hw_turn (ex_app (u := .slice A7 k c7) (v := .slice (some ad) (cs.drop (k + 1)).length (cf - (k + 1))) rfl rfl rfl hrun) ?_
      have hS : HpW _ [] w8 := ⟨_, by rw [List.append_nil]; exact H8⟩
      refine hK _ _ hS ?_
      clear hK K hrun
      go_frame
      (refine hw_take hS 10 (by decide +kernel) (by decide +kernel) (by decide +kernel) ⟨_, rfl, rfl, ?_, ?_, fun _ _ _ h => hQp _ _ _ _ _ h, ?_⟩; rotate_left; (intro w _; go_simp; try with_reducible rfl); go_frame)
      refine wpAnyH_done (by kernel_rfl) ?_ _
      simp only [List.set_cons_zero] at H8
      rw [ers] at H8
      have hle : k + (cs.drop (k + 1)).length = (cs.eraseIdx k).length := by rw [List.length_drop, List.length_eraseIdx, if_pos hkl]; omega
      rw [hle] at H8
      have HN := NetZ.mk1 (F := [_, _, _]) q1 q2 q3 q4 H8
      go_wp2_with fail
      delta MdFr at hJ
      go_meet
      case rel => exact ⟨cut, cs.eraseIdx k, A8, c8, _, by rw [← hle, List.length_drop], hI2, HN.keep1⟩
end Go.Proofs.YtiieakndjheknaaDoor
