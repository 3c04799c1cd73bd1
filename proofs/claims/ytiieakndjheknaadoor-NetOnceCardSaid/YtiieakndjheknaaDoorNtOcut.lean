/-
  NetOnce: the switch's way 'cut'.
-/
import Derived.Test.YtiieakndjheknaaDoorNtOw
namespace Go.Proofs.YtiieakndjheknaaDoor
set_option maxRecDepth 100000
open Go.RowKit
set_option linter.unusedVariables false
set_option linter.unusedSimpArgs false
set_option maxHeartbeats 40000000 in
theorem sw_cut {wB w1 : World} {g g9 m i x y q : Nat} {V : Ac} {cut : List Bool} {cs : List MX} {Af : Option Addr} {cf : Nat} {Z : List Item} {J K' : Act → World → Prop} {Q' : Exit → Act → World → Prop} {c1 c2 c3 e4 c6 e12 e13 e14 e15 e16 e17 e18 e19 e20 e21 c22 c23 c24 c25 c26 c27 c28 c29 c30 c31 c32 c33 c34 c35 c36 c37 c38 c39 c40 e41 e42 e43 e44 e45 e46 e47 e48 e49 e50 e51 e52 e53 e54 e55 e56 e57 e58 e59 e60 e61 e62 e63 e64 e65 e66 e68 e69 e70 e71 e72 e73 e74 e75 e76 e77 e78 e79 e80 e81 e82 e83 e84 e85 e86 e87 e88 e89 e90 e91 e92 e93 e94 e95 e96 e97 e98 e99 e100 e101 e102 e103 e104 e105 e106 e107 e108 e109 e110 e111 e112 e113 e114 e115 e116 e117 e118 e119 e120 e121 e122 e123 e124 e125 e126 e127 e128 e129 e130 e131 e132 e133 e134 e135 e136 e137 e138 e139 e140 e141 e142 e143 e144 e145 e146 e147 e148 e149 e150 e151 e152 e153 e154 e155 e156 e157 e158 e159 e160 e161 e162 e163 e164 e165 e166 e167 e168 e169 e170 e171 e172 e173 e174 e175 e176 e177 e178 e179 e180 e181 e182 e183 e184 e185 e186 e187 e188 e189 e190 e191 e192 e193 e194 e195 e196 e197 e198 e199 e200 e201 e202 e203 e204 e205 e206 e207 e208 e209 e210 e211 e212 e213 e214 e215 e216 e217 e218 e219 e220 e221 e222 e223 e224 e225 e226 e227 e228 e229 e230 e231 e232 e233 e234 e235 e236 e237 e238 e239 e240 e241 e242 e243 e244 e245 e246 e247 e248 e249 e250 e251 e252 e253 e254 e255 e256 e257 e258 e259 e260 e261 e262 e263 e264 e265 e266 e267 e268 e269 e270 e271 e272 e273 e274 e275 e276 e277 : Value}
    (hk : q = 7) (hFC : FldW wB) (hcn : crowdB (m : Int) = true) (hm7 : m ≤ 7) (hxm : x < m) (hym : y < m) (hi3 : i < 300) (haM : V.a ≤ 9223372036854775807) (hi1 : IntKind.i64.wrap ((i : Int) + 1) = ((i : Int) + 1)) (hI : OI m cut cs) (HN : NetZ wB w1 g (m : Int) cut cs [.blk g9 58 (acC V), mwI Af cf cs] Z)  (hM : ∀ (a' : Act) (w' : World), Met J a' w' → K' a' w') (hJ : ∀ (a' : Act) (w' : World), MdFr wB g g9 m i x y q c1 c2 c3 c6 c22 c23 c24 c25 c26 c27 c28 c29 c30 c31 c32 c33 c34 c35 c36 c37 c38 c39 c40 a' w' → J a' w') :
    Code.wp Tryd.prog sw2 (Exit.then K' Q') ⟨#[.int .i64 (m : Int), c1, c2, c3, e4, .pointer (some ⟨g, 0, none⟩), c6, .slice Af cs.length cf, .int .i64 (i : Int), .pointer (some ⟨g9, 0, none⟩), .int .i64 (x : Int), .int .i64 (y : Int), e12, e13, e14, e15, e16, e17, e18, e19, e20, e21, c22, c23, c24, c25, c26, c27, c28, c29, c30, c31, c32, c33, c34, c35, c36, c37, c38, c39, c40, e41, e42, e43, e44, e45, e46, e47, e48, e49, e50, e51, e52, e53, e54, e55, e56, e57, e58, e59, e60, e61, e62, e63, e64, e65, e66, .int .u8 (q : Int), e68, e69, e70, e71, e72, e73, e74, e75, e76, e77, e78, e79, e80, e81, e82, e83, e84, e85, e86, e87, e88, e89, e90, e91, e92, e93, e94, e95, e96, e97, e98, e99, e100, e101, e102, e103, e104, e105, e106, e107, e108, e109, e110, e111, e112, e113, e114, e115, e116, e117, e118, e119, e120, e121, e122, e123, e124, e125, e126, e127, e128, e129, e130, e131, e132, e133, e134, e135, e136, e137, e138, e139, e140, e141, e142, e143, e144, e145, e146, e147, e148, e149, e150, e151, e152, e153, e154, e155, e156, e157, e158, e159, e160, e161, e162, e163, e164, e165, e166, e167, e168, e169, e170, e171, e172, e173, e174, e175, e176, e177, e178, e179, e180, e181, e182, e183, e184, e185, e186, e187, e188, e189, e190, e191, e192, e193, e194, e195, e196, e197, e198, e199, e200, e201, e202, e203, e204, e205, e206, e207, e208, e209, e210, e211, e212, e213, e214, e215, e216, e217, e218, e219, e220, e221, e222, e223, e224, e225, e226, e227, e228, e229, e230, e231, e232, e233, e234, e235, e236, e237, e238, e239, e240, e241, e242, e243, e244, e245, e246, e247, e248, e249, e250, e251, e252, e253, e254, e255, e256, e257, e258, e259, e260, e261, e262, e263, e264, e265, e266, e267, e268, e269, e270, e271, e272, e273, e274, e275, e276, e277], []⟩ w1 := by
  have hIx : I64 (x : Int) := ⟨by omega, by omega⟩
  have hIy : I64 (y : Int) := ⟨by omega, by omega⟩
  have hii : 1 ≤ (i : Int) + 1 ∧ (i : Int) + 1 ≤ 1099511627776 := by omega
  have hVa : (acC V)[28]? = some (.int .i64 V.a) := rfl
  have hm0 : ¬ m = 0 := by omega
  conv => arg 2; whnf
  subst hk
  have hlen200 := HN.len
  have h49 : cut.length = 49 := HN.l49
  by_cases hxy : x = y
  · have dxe : ((x : Int) == (y : Int)) = true := beq_iff_eq.2 (by omega)
    have dxn : ((x : Int) != (y : Int)) = false := by simp [hxy]
    have hp0 : pairB (m : Int) (x : Int) (y : Int) = false := by unfold pairB; rw [dxn]; simp
    have HCC : Hid (ncutC (m : Int) cut (x : Int) (y : Int) = cut) := Lib.hid (by unfold ncutC; rw [hp0]; rfl)
    have HCL : Hid (ncutL (m : Int) cut cs (x : Int) (y : Int) = cs) := Lib.hid (by unfold ncutL; rw [hp0]; rfl)
    have HCR : Hid (ncutR (m : Int) (x : Int) (y : Int) = 2) := Lib.hid (by unfold ncutR; rw [hp0]; rfl)
    clear hp0 hxy
    as_aux_lemma =>
      go_wp2_with (first | ((with_reducible refine (ncut_v HN hcn HCC.out HCL.out HCR.out).mono ?_); rintro _ w1 ⟨rfl, Z2, hZs, HN2⟩; clear HN hZs; (have HN := HN2); clear HN2))
      obtain ⟨A6, c6, fl6, q1, q2, q3, q4, H⟩ := HN
      have hatL : LfRel (fun _ => true) cs wB (netI g (m : Int) A6 fl6.length c6 cut) (mwI A6 c6 fl6) (.blk g9 58 (acC V)) (mwI Af cf cs) Z2 (.slice none 0 0) (.int .i64 (0 : Nat)) w1 := ⟨0, [], none, 0, [], rfl, rfl, Nat.zero_le _, by simp, H.nilRow _ _⟩
      clear H
      go_loopw [19, 20] (fun v19 v20 wr => LfRel (fun _ => true) cs wB (netI g (m : Int) A6 fl6.length c6 cut) (mwI A6 c6 fl6) (.blk g9 58 (acC V)) (mwI Af cf cs) Z2 v19 v20 wr) (fun _ v20 _ => cs.length - (intOf v20).toNat)
      case atStart => exact hatL
      case round =>
        clear hatL
        obtain ⟨k, left, Al, cl, P, rfl, rfl, hk, hlf, H⟩ := hrel
        by_cases hkl : k < cs.length
        · have hk2 : IntKind.i64.wrap ((k : Int) + 1) = ((k + 1 : Nat) : Int) := IntWalk.i64_in _ (by omega)
          obtain ⟨gF, rfl⟩ := H.rowsA 4 rfl (by omega)
          have hol : left.length ≤ 1000000 := by rw [hlf]; exact Nat.le_trans (List.length_filter_le _ _) (by rw [List.length_take]; omega)
          have HLF := Lib.hid hlf
          clear hlf
          have hkeep : (fun _ => true) cs[k] = true → left ++ [cs[k]] = (cs.take (k + 1)).filter (fun _ => true) := fun h => by rw [List.take_succ_eq_append_getElem hkl, List.filter_append, ← HLF.out, List.filter_cons, if_pos h, List.filter_nil]
          have HKE := Lib.hid hkeep
          clear hkeep
          go_wp2_with (first | ((with_reducible refine Hp.ldRow (f := mxC) mxC_len H ?_); refine ⟨rfl, by kernel_rfl, s_Msg, _, _, rfl, 4, _, _, _, rfl, k, rfl, hkl, ?_⟩; go_frame) | ((with_reducible refine Hp.allo (ty := 34) H ?_); refine ⟨rfl, ?_⟩; refine ⟨_, z_look rfl, ?_⟩; (clear H; intro g21 w1 H); go_frame) | ((with_reducible refine Hp.sta H ?_); refine ⟨rfl, ?_⟩; refine ⟨_, s_look rfl, ?_⟩; refine ⟨_, rfl, mgC cs[k].m, rfl, rfl, ?_⟩; refine ⟨_, _, _, .z, ?_⟩; refine ⟨rfl, rfl, ?_⟩; (clear H; intro w1 H; simp only [List.set] at H); go_frame) | ((with_reducible refine Hp.ld H ?_); refine ⟨rfl, c_look rfl, _, _, rfl, _, _, _, .z, _, rfl, ?_⟩; go_frame) | ((with_reducible refine Hp.lda H ?_); refine ⟨rfl, by kernel_rfl, _, s_Msg, _, rfl, _, _, _, .z, rfl, ?_⟩; go_frame) | ((with_reducible refine Hp.bsl1 H ms_u ms_info2 rfl rfl ?_); refine ⟨rfl, mgC cs[k].m, rfl, rfl, ?_⟩; (clear H; intro gb w1 H); go_frame) | (at_builtin; (with_reducible refine Hp.wlAppRow H ms_u ms_info rfl rfl rfl ?_); refine ⟨2, _, _, _, _, rfl, rfl, 0, _, _, _, _, rfl, rfl, rfl, mgC_one _, hol, ?_⟩; (clear H; intro A3 c3 w1 H); simp only [List.set_cons_succ, List.set_cons_zero, List.cons_append, List.nil_append] at H))
          have e : Item.own 34 27 A3 (left.length + 1) c3 (rowsC mxC left ++ mgC cs[k].m) = mwI A3 c3 (left ++ [cs[k]]) := mw_app left cs[k] A3 c3
          rw [e] at H
          go_roundw
          case rel => exact ⟨k + 1, left ++ [cs[k]], A3, c3, _ :: _ :: P, by rw [List.length_append]; rfl, rfl, hkl, HKE.out (rfl), H.mid5 [_, _]⟩
          case measure => show cs.length - (k + 1) < cs.length - k; omega
        · obtain rfl : k = cs.length := by omega
          have hjj : decide ((cs.length : Int) < (cs.length : Int)) = false := decide_eq_false (by omega)
          have hle : left = cs := by rw [hlf, List.take_length]; simp
          subst hle
          have HN := NetZ.mk1 (F := [_, _]) q1 (q2.mono (sub_app P Z2)) q3 q4 H
          clear H hlf
          have hIX := hI
          go_wp2_with (first | (fail))
          delta MdFr at hJ
          go_meet
          case rel => exact ⟨cut, _, Al, cl, _, rfl, hIX, HN.keep1⟩
  · have dxe : ((x : Int) == (y : Int)) = false := beq_eq_false_iff_ne.2 (by omega)
    have dxn : ((x : Int) != (y : Int)) = true := bne_iff_ne.2 (by omega)
    have hp0 : pairB (m : Int) (x : Int) (y : Int) = true := by
      simp only [pairB, Bool.and_eq_true, decide_eq_true_eq, bne_iff_ne]
      omega
    have hI3 := hI.cut (x := x) (y := y)
    have hke := keep_eq hI h49 hm7 hxm hym hxy
    obtain ⟨cut2, hcc⟩ : ∃ c, ncutC (m : Int) cut (x : Int) (y : Int) = c := ⟨_, rfl⟩
    rw [hke, hcc] at hI3
    have HCC := Lib.hid hcc
    have HCL := Lib.hid hke
    have HCR : Hid (ncutR (m : Int) (x : Int) (y : Int) = 0) := Lib.hid (by unfold ncutR; rw [hp0]; rfl)
    clear hp0 hcc hke
    as_aux_lemma =>
      go_wp2_with (first | ((with_reducible refine (ncut_v HN hcn HCC.out HCL.out HCR.out).mono ?_); rintro _ w1 ⟨rfl, Z2, hZs, HN2⟩; clear HN hZs; (have HN := HN2); clear HN2))
      obtain ⟨A6, c6, fl6, q1, q2, q3, q4, H⟩ := HN
      have hatL : LfRel (keepC x y) cs wB (netI g (m : Int) A6 fl6.length c6 cut2) (mwI A6 c6 fl6) (.blk g9 58 (acC V)) (mwI Af cf cs) Z2 (.slice none 0 0) (.int .i64 (0 : Nat)) w1 := ⟨0, [], none, 0, [], rfl, rfl, Nat.zero_le _, by simp, H.nilRow _ _⟩
      clear H
      go_loopw [19, 20] (fun v19 v20 wr => LfRel (keepC x y) cs wB (netI g (m : Int) A6 fl6.length c6 cut2) (mwI A6 c6 fl6) (.blk g9 58 (acC V)) (mwI Af cf cs) Z2 v19 v20 wr) (fun _ v20 _ => cs.length - (intOf v20).toNat)
      case atStart => exact hatL
      case round =>
        clear hatL
        obtain ⟨k, left, Al, cl, P, rfl, rfl, hk, hlf, H⟩ := hrel
        by_cases hkl : k < cs.length
        · have hk2 : IntKind.i64.wrap ((k : Int) + 1) = ((k + 1 : Nat) : Int) := IntWalk.i64_in _ (by omega)
          obtain ⟨gF, rfl⟩ := H.rowsA 4 rfl (by omega)
          have hol : left.length ≤ 1000000 := by rw [hlf]; exact Nat.le_trans (List.length_filter_le _ _) (by rw [List.length_take]; omega)
          have HLF := Lib.hid hlf
          clear hlf
          have hkeep : (keepC x y) cs[k] = true → left ++ [cs[k]] = (cs.take (k + 1)).filter (keepC x y) := fun h => by rw [List.take_succ_eq_append_getElem hkl, List.filter_append, ← HLF.out, List.filter_cons, if_pos h, List.filter_nil]
          have hlose : (keepC x y) cs[k] = false → left = (cs.take (k + 1)).filter (keepC x y) := fun h => by rw [List.take_succ_eq_append_getElem hkl, List.filter_append, ← HLF.out, List.filter_cons, if_neg (by rw [h]; decide), List.filter_nil, List.append_nil]
          have HKE := Lib.hid hkeep
          have HLO := Lib.hid hlose
          clear hkeep hlose
          have hqx : ∀ c : MX, keepC x y c = !((c.m.fr == (x : Int)) && (c.m.to == (y : Int)) || (c.m.fr == (y : Int)) && (c.m.to == (x : Int))) := fun _ => rfl
          have HQ := Lib.hid hqx
          clear hqx
          have hch : ((cs[k].m.fr == (x : Int)) = true ∧ (cs[k].m.to == (y : Int)) = true) ∨ ((cs[k].m.fr == (x : Int)) = true ∧ (cs[k].m.to == (y : Int)) = false ∧ (cs[k].m.fr == (y : Int)) = false) ∨ ((cs[k].m.fr == (x : Int)) = false ∧ (cs[k].m.fr == (y : Int)) = true ∧ (cs[k].m.to == (x : Int)) = true) ∨ ((cs[k].m.fr == (x : Int)) = false ∧ (cs[k].m.fr == (y : Int)) = true ∧ (cs[k].m.to == (x : Int)) = false) ∨ ((cs[k].m.fr == (x : Int)) = false ∧ (cs[k].m.fr == (y : Int)) = false) := by
            simp only [beq_iff_eq, beq_eq_false_iff_ne]
            omega
          rcases hch with ⟨d1, d2⟩ | ⟨d1, d2, d3⟩ | ⟨d1, d2, d3⟩ | ⟨d1, d2, d3⟩ | ⟨d1, d2⟩
          · go_wp2_with (first | ((with_reducible refine Hp.ldRow (f := mxC) mxC_len H ?_); refine ⟨rfl, by kernel_rfl, s_Msg, _, _, rfl, 4, _, _, _, rfl, k, rfl, hkl, ?_⟩; go_frame) | ((with_reducible refine Hp.allo (ty := 34) H ?_); refine ⟨rfl, ?_⟩; refine ⟨_, z_look rfl, ?_⟩; (clear H; intro g21 w1 H); go_frame) | ((with_reducible refine Hp.sta H ?_); refine ⟨rfl, ?_⟩; refine ⟨_, s_look rfl, ?_⟩; refine ⟨_, rfl, mgC cs[k].m, rfl, rfl, ?_⟩; refine ⟨_, _, _, .z, ?_⟩; refine ⟨rfl, rfl, ?_⟩; (clear H; intro w1 H; simp only [List.set] at H); go_frame) | ((with_reducible refine Hp.ld H ?_); refine ⟨rfl, c_look rfl, _, _, rfl, _, _, _, .z, _, rfl, ?_⟩; go_frame) | ((with_reducible refine Hp.lda H ?_); refine ⟨rfl, by kernel_rfl, _, s_Msg, _, rfl, _, _, _, .z, rfl, ?_⟩; go_frame) | ((with_reducible refine Hp.bsl1 H ms_u ms_info2 rfl rfl ?_); refine ⟨rfl, mgC cs[k].m, rfl, rfl, ?_⟩; (clear H; intro gb w1 H); go_frame) | (at_builtin; (with_reducible refine Hp.wlAppRow H ms_u ms_info rfl rfl rfl ?_); refine ⟨2, _, _, _, _, rfl, rfl, 0, _, _, _, _, rfl, rfl, rfl, mgC_one _, hol, ?_⟩; (clear H; intro A3 c3 w1 H); simp only [List.set_cons_succ, List.set_cons_zero, List.cons_append, List.nil_append] at H))
            go_roundw
            case rel => exact ⟨k + 1, left, Al, cl, _ :: P, rfl, rfl, hkl, HLO.out (by rw [HQ.out, d1, d2]; rfl), H.mid5 [_]⟩
            case measure => show cs.length - (k + 1) < cs.length - k; omega
          · go_wp2_with (first | ((with_reducible refine Hp.ldRow (f := mxC) mxC_len H ?_); refine ⟨rfl, by kernel_rfl, s_Msg, _, _, rfl, 4, _, _, _, rfl, k, rfl, hkl, ?_⟩; go_frame) | ((with_reducible refine Hp.allo (ty := 34) H ?_); refine ⟨rfl, ?_⟩; refine ⟨_, z_look rfl, ?_⟩; (clear H; intro g21 w1 H); go_frame) | ((with_reducible refine Hp.sta H ?_); refine ⟨rfl, ?_⟩; refine ⟨_, s_look rfl, ?_⟩; refine ⟨_, rfl, mgC cs[k].m, rfl, rfl, ?_⟩; refine ⟨_, _, _, .z, ?_⟩; refine ⟨rfl, rfl, ?_⟩; (clear H; intro w1 H; simp only [List.set] at H); go_frame) | ((with_reducible refine Hp.ld H ?_); refine ⟨rfl, c_look rfl, _, _, rfl, _, _, _, .z, _, rfl, ?_⟩; go_frame) | ((with_reducible refine Hp.lda H ?_); refine ⟨rfl, by kernel_rfl, _, s_Msg, _, rfl, _, _, _, .z, rfl, ?_⟩; go_frame) | ((with_reducible refine Hp.bsl1 H ms_u ms_info2 rfl rfl ?_); refine ⟨rfl, mgC cs[k].m, rfl, rfl, ?_⟩; (clear H; intro gb w1 H); go_frame) | (at_builtin; (with_reducible refine Hp.wlAppRow H ms_u ms_info rfl rfl rfl ?_); refine ⟨2, _, _, _, _, rfl, rfl, 0, _, _, _, _, rfl, rfl, rfl, mgC_one _, hol, ?_⟩; (clear H; intro A3 c3 w1 H); simp only [List.set_cons_succ, List.set_cons_zero, List.cons_append, List.nil_append] at H))
            have e : Item.own 34 27 A3 (left.length + 1) c3 (rowsC mxC left ++ mgC cs[k].m) = mwI A3 c3 (left ++ [cs[k]]) := mw_app left cs[k] A3 c3
            rw [e] at H
            go_roundw
            case rel => exact ⟨k + 1, left ++ [cs[k]], A3, c3, _ :: _ :: P, by rw [List.length_append]; rfl, rfl, hkl, HKE.out (by rw [HQ.out, d1, d2, d3]; rfl), H.mid5 [_, _]⟩
            case measure => show cs.length - (k + 1) < cs.length - k; omega
          · go_wp2_with (first | ((with_reducible refine Hp.ldRow (f := mxC) mxC_len H ?_); refine ⟨rfl, by kernel_rfl, s_Msg, _, _, rfl, 4, _, _, _, rfl, k, rfl, hkl, ?_⟩; go_frame) | ((with_reducible refine Hp.allo (ty := 34) H ?_); refine ⟨rfl, ?_⟩; refine ⟨_, z_look rfl, ?_⟩; (clear H; intro g21 w1 H); go_frame) | ((with_reducible refine Hp.sta H ?_); refine ⟨rfl, ?_⟩; refine ⟨_, s_look rfl, ?_⟩; refine ⟨_, rfl, mgC cs[k].m, rfl, rfl, ?_⟩; refine ⟨_, _, _, .z, ?_⟩; refine ⟨rfl, rfl, ?_⟩; (clear H; intro w1 H; simp only [List.set] at H); go_frame) | ((with_reducible refine Hp.ld H ?_); refine ⟨rfl, c_look rfl, _, _, rfl, _, _, _, .z, _, rfl, ?_⟩; go_frame) | ((with_reducible refine Hp.lda H ?_); refine ⟨rfl, by kernel_rfl, _, s_Msg, _, rfl, _, _, _, .z, rfl, ?_⟩; go_frame) | ((with_reducible refine Hp.bsl1 H ms_u ms_info2 rfl rfl ?_); refine ⟨rfl, mgC cs[k].m, rfl, rfl, ?_⟩; (clear H; intro gb w1 H); go_frame) | (at_builtin; (with_reducible refine Hp.wlAppRow H ms_u ms_info rfl rfl rfl ?_); refine ⟨2, _, _, _, _, rfl, rfl, 0, _, _, _, _, rfl, rfl, rfl, mgC_one _, hol, ?_⟩; (clear H; intro A3 c3 w1 H); simp only [List.set_cons_succ, List.set_cons_zero, List.cons_append, List.nil_append] at H))
            go_roundw
            case rel => exact ⟨k + 1, left, Al, cl, _ :: P, rfl, rfl, hkl, HLO.out (by rw [HQ.out, d1, d2, d3]; rfl), H.mid5 [_]⟩
            case measure => show cs.length - (k + 1) < cs.length - k; omega
          · go_wp2_with (first | ((with_reducible refine Hp.ldRow (f := mxC) mxC_len H ?_); refine ⟨rfl, by kernel_rfl, s_Msg, _, _, rfl, 4, _, _, _, rfl, k, rfl, hkl, ?_⟩; go_frame) | ((with_reducible refine Hp.allo (ty := 34) H ?_); refine ⟨rfl, ?_⟩; refine ⟨_, z_look rfl, ?_⟩; (clear H; intro g21 w1 H); go_frame) | ((with_reducible refine Hp.sta H ?_); refine ⟨rfl, ?_⟩; refine ⟨_, s_look rfl, ?_⟩; refine ⟨_, rfl, mgC cs[k].m, rfl, rfl, ?_⟩; refine ⟨_, _, _, .z, ?_⟩; refine ⟨rfl, rfl, ?_⟩; (clear H; intro w1 H; simp only [List.set] at H); go_frame) | ((with_reducible refine Hp.ld H ?_); refine ⟨rfl, c_look rfl, _, _, rfl, _, _, _, .z, _, rfl, ?_⟩; go_frame) | ((with_reducible refine Hp.lda H ?_); refine ⟨rfl, by kernel_rfl, _, s_Msg, _, rfl, _, _, _, .z, rfl, ?_⟩; go_frame) | ((with_reducible refine Hp.bsl1 H ms_u ms_info2 rfl rfl ?_); refine ⟨rfl, mgC cs[k].m, rfl, rfl, ?_⟩; (clear H; intro gb w1 H); go_frame) | (at_builtin; (with_reducible refine Hp.wlAppRow H ms_u ms_info rfl rfl rfl ?_); refine ⟨2, _, _, _, _, rfl, rfl, 0, _, _, _, _, rfl, rfl, rfl, mgC_one _, hol, ?_⟩; (clear H; intro A3 c3 w1 H); simp only [List.set_cons_succ, List.set_cons_zero, List.cons_append, List.nil_append] at H))
            have e : Item.own 34 27 A3 (left.length + 1) c3 (rowsC mxC left ++ mgC cs[k].m) = mwI A3 c3 (left ++ [cs[k]]) := mw_app left cs[k] A3 c3
            rw [e] at H
            go_roundw
            case rel => exact ⟨k + 1, left ++ [cs[k]], A3, c3, _ :: _ :: P, by rw [List.length_append]; rfl, rfl, hkl, HKE.out (by rw [HQ.out, d1, d2, d3]; rfl), H.mid5 [_, _]⟩
            case measure => show cs.length - (k + 1) < cs.length - k; omega
          · go_wp2_with (first | ((with_reducible refine Hp.ldRow (f := mxC) mxC_len H ?_); refine ⟨rfl, by kernel_rfl, s_Msg, _, _, rfl, 4, _, _, _, rfl, k, rfl, hkl, ?_⟩; go_frame) | ((with_reducible refine Hp.allo (ty := 34) H ?_); refine ⟨rfl, ?_⟩; refine ⟨_, z_look rfl, ?_⟩; (clear H; intro g21 w1 H); go_frame) | ((with_reducible refine Hp.sta H ?_); refine ⟨rfl, ?_⟩; refine ⟨_, s_look rfl, ?_⟩; refine ⟨_, rfl, mgC cs[k].m, rfl, rfl, ?_⟩; refine ⟨_, _, _, .z, ?_⟩; refine ⟨rfl, rfl, ?_⟩; (clear H; intro w1 H; simp only [List.set] at H); go_frame) | ((with_reducible refine Hp.ld H ?_); refine ⟨rfl, c_look rfl, _, _, rfl, _, _, _, .z, _, rfl, ?_⟩; go_frame) | ((with_reducible refine Hp.lda H ?_); refine ⟨rfl, by kernel_rfl, _, s_Msg, _, rfl, _, _, _, .z, rfl, ?_⟩; go_frame) | ((with_reducible refine Hp.bsl1 H ms_u ms_info2 rfl rfl ?_); refine ⟨rfl, mgC cs[k].m, rfl, rfl, ?_⟩; (clear H; intro gb w1 H); go_frame) | (at_builtin; (with_reducible refine Hp.wlAppRow H ms_u ms_info rfl rfl rfl ?_); refine ⟨2, _, _, _, _, rfl, rfl, 0, _, _, _, _, rfl, rfl, rfl, mgC_one _, hol, ?_⟩; (clear H; intro A3 c3 w1 H); simp only [List.set_cons_succ, List.set_cons_zero, List.cons_append, List.nil_append] at H))
            have e : Item.own 34 27 A3 (left.length + 1) c3 (rowsC mxC left ++ mgC cs[k].m) = mwI A3 c3 (left ++ [cs[k]]) := mw_app left cs[k] A3 c3
            rw [e] at H
            go_roundw
            case rel => exact ⟨k + 1, left ++ [cs[k]], A3, c3, _ :: _ :: P, by rw [List.length_append]; rfl, rfl, hkl, HKE.out (by rw [HQ.out, d1, d2]; rfl), H.mid5 [_, _]⟩
            case measure => show cs.length - (k + 1) < cs.length - k; omega
        · obtain rfl : k = cs.length := by omega
          have hjj : decide ((cs.length : Int) < (cs.length : Int)) = false := decide_eq_false (by omega)
          have hle : left = cs.filter (keepC x y) := by rw [hlf, List.take_length]
          subst hle
          have HN := NetZ.mk1 (F := [_, _]) q1 (q2.mono (sub_app P Z2)) q3 q4 H
          clear H hlf
          have hIX := hI3
          go_wp2_with (first | (fail))
          delta MdFr at hJ
          go_meet
          case rel => exact ⟨cut2, _, Al, cl, _, rfl, hIX, HN.keep1⟩
end Go.Proofs.YtiieakndjheknaaDoor
