/-
  NetPlays: the switch's way 'send'.
-/
import Derived.Test.YtiieakndjheknaaDoorNpW
namespace Go.Proofs.YtiieakndjheknaaDoor
set_option maxRecDepth 100000
open Go.RowKit
set_option linter.unusedVariables false
set_option linter.unusedSimpArgs false
set_option maxHeartbeats 40000000 in
theorem pw_send {wB w1 : World} {g gw g9 i q : Nat} {n : Int} {V : Ac} {cut : List Bool} {cs : List MX} {Z : List Item} {J K' : Act → World → Prop} {Q' : Exit → Act → World → Prop} {c1 c2 c3 e4 c6 e10 e11 e12 e13 e14 e15 e16 e17 c18 c19 c20 c21 c22 c23 c24 c25 c26 c27 c28 c29 c30 c31 c32 c33 c34 c35 c36 c37 c38 c39 c40 c41 c42 c43 c44 e45 e46 e47 e48 e49 e50 e51 e52 e53 e54 e55 e56 e58 e59 e60 e61 e62 e63 e64 e65 e66 e67 e68 e69 e70 e71 e72 e73 e74 e75 e76 e77 e78 e79 e80 e81 e82 e83 e84 e85 e86 e87 e88 e89 e90 e91 e92 e93 e94 e95 e96 e97 e98 e99 e100 e101 e102 e103 e104 e105 e106 e107 e108 e109 e110 e111 e112 e113 e114 e115 e116 e117 e118 e119 e120 e121 e122 e123 e124 e125 e126 e127 e128 e129 e130 e131 e132 e133 e134 e135 e136 e137 e138 e139 e140 e141 e142 e143 e144 e145 e146 e147 e148 e149 e150 e151 e152 e153 e154 e155 e156 e157 e158 e159 e160 e161 e162 e163 e164 e165 e166 e167 e168 e169 e170 e171 e172 e173 e174 e175 e176 e177 e178 e179 e180 e181 e182 e183 e184 e185 e186 e187 e188 e189 e190 e191 e192 e193 e194 e195 e196 e197 e198 e199 e200 e201 e202 e203 e204 e205 e206 e207 e208 e209 e210 e211 e212 e213 e214 e215 e216 e217 e218 e219 e220 e221 e222 e223 e224 e225 e226 e227 e228 e229 e230 e231 e232 e233 e234 : Value}
    (hq4 : q < 4) (hFC : FldW wB) (hcn : crowdB n = true) (hi3 : i < 300) (haM : V.a ≤ 9223372036854775807) (ho : OkX V.x) (hMR : MgR wB V.x.m V.x.rs V.x.l) (HP : PlZ wB w1 g gw n cut cs cut cs i [.blk g9 58 (acC V)] Z) (hQp : ∀ (c : List PanicEntry) (d : Tmp) (v : Value) (a : Act) (w : World), Q' (.panic c) (a.put (some d) v) w → Q' (.panic c) a w) (hM : ∀ (a' : Act) (w' : World), Met J a' w' → K' a' w') (hJ : ∀ (a' : Act) (w' : World), NpFr wB g gw g9 i q n V c1 c2 c3 c6 c18 c19 c20 c21 c22 c23 c24 c25 c26 c27 c28 c29 c30 c31 c32 c33 c34 c35 c36 c37 c38 c39 c40 c41 c42 c43 c44 a' w' → J a' w') :
    Code.wp Tryd.prog swP (Exit.then K' Q') ⟨#[.int .i64 n, c1, c2, c3, e4, .pointer (some ⟨g, 0, none⟩), c6, .pointer (some ⟨gw, 0, none⟩), .int .i64 (i : Int), .pointer (some ⟨g9, 0, none⟩), e10, e11, e12, e13, e14, e15, e16, e17, c18, c19, c20, c21, c22, c23, c24, c25, c26, c27, c28, c29, c30, c31, c32, c33, c34, c35, c36, c37, c38, c39, c40, c41, c42, c43, c44, e45, e46, e47, e48, e49, e50, e51, e52, e53, e54, e55, e56, .int .u8 (q : Int), e58, e59, e60, e61, e62, e63, e64, e65, e66, e67, e68, e69, e70, e71, e72, e73, e74, e75, e76, e77, e78, e79, e80, e81, e82, e83, e84, e85, e86, e87, e88, e89, e90, e91, e92, e93, e94, e95, e96, e97, e98, e99, e100, e101, e102, e103, e104, e105, e106, e107, e108, e109, e110, e111, e112, e113, e114, e115, e116, e117, e118, e119, e120, e121, e122, e123, e124, e125, e126, e127, e128, e129, e130, e131, e132, e133, e134, e135, e136, e137, e138, e139, e140, e141, e142, e143, e144, e145, e146, e147, e148, e149, e150, e151, e152, e153, e154, e155, e156, e157, e158, e159, e160, e161, e162, e163, e164, e165, e166, e167, e168, e169, e170, e171, e172, e173, e174, e175, e176, e177, e178, e179, e180, e181, e182, e183, e184, e185, e186, e187, e188, e189, e190, e191, e192, e193, e194, e195, e196, e197, e198, e199, e200, e201, e202, e203, e204, e205, e206, e207, e208, e209, e210, e211, e212, e213, e214, e215, e216, e217, e218, e219, e220, e221, e222, e223, e224, e225, e226, e227, e228, e229, e230, e231, e232, e233, e234], []⟩ w1 := by
  conv => arg 2; whnf
  go_upto_if 58 with (fail)
  go_cut [58] from 59 to 62 (fun v58 wx => v58 = .bool (decide (q < 4)) ∧ wx = w1)
  case first =>
    obtain rfl | rfl | rfl | rfl : q = 0 ∨ q = 1 ∨ q = 2 ∨ q = 3 := by omega
    all_goals
      go_wp2_with fail
      go_meet
      case rel => exact ⟨rfl, rfl⟩
  case rest =>
  obtain ⟨rfl, rfl⟩ := hcut
  have e4 : decide (q < 4) = true := decide_eq_true hq4
  obtain ⟨R, hR⟩ : ∃ R : Int, nsndR n cut cs (cx V.x) = R := ⟨_, rfl⟩
  obtain ⟨L, hL⟩ : ∃ L, nsndL n cut cs (cx V.x) = L := ⟨_, rfl⟩
  have HR := Lib.hid hR
  have HL := Lib.hid hL
  have HO : Hid (OkX V.x) := Lib.hid ho
  have hrs := ho.2.2.2.2.1
  have hll := ho.2.2.2.2.2
  have hlm : V.x.l.length ≤ 9223372036854775806 := by omega
  have hi1k : i ≤ 1000 := by omega
  have hsame : Hid (∀ (A1 A2 : Option Addr) (c1 c2 : Nat), sameM (cpM V.x.m V.x.rs V.x.l A1 c1 A2 c2) V.x.rs V.x.l V.x.m V.x.rs V.x.l = true) := Lib.hid (fun A1 A2 c1 c2 => sameX (x := ⟨cpM V.x.m V.x.rs V.x.l A1 c1 A2 c2, V.x.rs, V.x.l⟩) (y := V.x) |>.2 rfl)
  clear hR hL ho
  as_aux_lemma =>
    go_wp2_with (first | ((with_reducible refine PlZ.ldr HP ?_); refine ⟨rfl, by kernel_rfl, _, _, rfl, 0, _, _, rfl, mgC V.x.m, s_Msg, rfl, ?_⟩; go_frame) | ((with_reducible refine (rcopy_any V.x.m V.x.rs V.x.l _ (hMR.below HP.below) hrs hll).mono ?_); rintro _ w1 ⟨A1, c1, A2, c2, rfl, HQ⟩; replace HP := HP.add2 (fun L H => HQ.onto H); clear HQ) | ((with_reducible refine PlZ.allo HP ?_); refine ⟨rfl, _, z_look rfl, ?_⟩; (clear HP; intro gm w1 HP); go_frame) | ((with_reducible refine PlZ.sta HP ?_); refine ⟨rfl, _, s_Msg, rfl, _, rfl, rfl, rfl, rfl, ?_⟩; (clear HP; intro w1 HP); go_frame))
    replace HP : PlZ wB w1 g gw n cut cs cut cs i [.bytes A2 c2 V.x.l, .blk gm 34 (mgC (cpM V.x.m V.x.rs V.x.l A1 c1 A2 c2)), .blk g9 58 (acC V)] ([rwI A1 c1 V.x.rs] ++ Z) := PlZ.tuck (F1 := [_]) (HP.perm ((perm_mid [_, _] [_] _).trans (List.Perm.cons _ (List.Perm.swap _ _ _))))
    have hMm : MgS wB ([.bytes A2 c2 V.x.l, .blk gm 34 (mgC (cpM V.x.m V.x.rs V.x.l A1 c1 A2 c2)), .blk g9 58 (acC V)] ++ ([rwI A1 c1 V.x.rs] ++ Z)) (cpM V.x.m V.x.rs V.x.l A1 c1 A2 c2) V.x.rs V.x.l := by
      have hh : Held ([.bytes A2 c2 V.x.l, .blk gm 34 (mgC (cpM V.x.m V.x.rs V.x.l A1 c1 A2 c2)), .blk g9 58 (acC V)] ++ ([rwI A1 c1 V.x.rs] ++ Z)) [⟨cpM V.x.m V.x.rs V.x.l A1 c1 A2 c2, V.x.rs, V.x.l⟩] := by
        intro y hy
        obtain rfl := List.mem_singleton.1 hy
        exact ⟨OkX.cp HO.out _ _ _ _, List.mem_cons_self, List.mem_append_right _ (List.mem_append_left _ (List.mem_singleton.2 rfl))⟩
      exact hh.S (List.mem_singleton.2 rfl) wB
    have hox := OkX.cp HO.out A1 c1 A2 c2
    refine hw_startP [.blk gm 34 (mgC (cpM V.x.m V.x.rs V.x.l A1 c1 A2 c2)), .blk g9 58 (acC V)] HP (fun w' h => h.W (F1 := [_])) (by kernel_rfl) (fun w1 HP => ?_)
    have hS := HP.W (F1 := [_])
    (refine hw_take hS 0 (by decide +kernel) (by decide +kernel) (by decide +kernel) ⟨_, rfl, rfl, ?_, ?_, fun _ _ _ h => hQp _ _ _ _ _ h, ?_⟩; rotate_left; (intro w _; go_simp; try with_reducible rfl); go_frame)
    (refine hw_take hS 1 (by decide +kernel) (by decide +kernel) (by decide +kernel) ⟨_, rfl, rfl, _, fun w h => ex_load rfl rfl (hw_lda (by kernel_rfl) s_Msg .z rfl w h), fun _ _ _ h => hQp _ _ _ _ _ h, ?_⟩; go_frame)
    (refine hw_take hS 3 (by decide +kernel) (by decide +kernel) (by decide +kernel) ⟨_, rfl, rfl, ?_, ?_, fun _ _ _ h => hQp _ _ _ _ _ h, ?_⟩; rotate_left; (intro w _; go_simp; try with_reducible rfl); go_frame); (refine hw_take hS 4 (by decide +kernel) (by decide +kernel) (by decide +kernel) ⟨_, rfl, rfl, ?_, ?_, fun _ _ _ h => hQp _ _ _ _ _ h, ?_⟩; rotate_left; (intro w _; go_simp; try with_reducible rfl); go_frame)
    (refine hw_take hS 5 (by decide +kernel) (by decide +kernel) (by decide +kernel) ⟨_, rfl, rfl, _, fun w h => ex_load rfl rfl (hw_lds (vs := mgC V.x.m) (by kernel_rfl) s_Msg (.s .z) rfl rfl w h), fun _ _ _ h => hQp _ _ _ _ _ h, ?_⟩; go_frame)
    clear hS
    (refine hw_one 2 (by decide +kernel) ⟨_, rfl, rfl, fun K hK => ?_⟩)
    (refine hw_callk (vs := [.pointer (some ⟨g, 0, none⟩), .agg (mgC (cpM V.x.m V.x.rs V.x.l A1 c1 A2 c2)).toArray]) (psend_v HP hFC hcn hMm hox HR.out HL.out) cf_nsend rfl rfl rfl (fun e w1 hp => ?_); obtain ⟨rfl, Z2, hZ2, HP2⟩ := hp)
    replace hMm := hMm.mono (fun y hy => (List.mem_append.1 hy).elim (List.mem_append_left _) (fun h => List.mem_append_right _ (hZ2 h)))
    clear HP hZ2; have HP := HP2; clear HP2
    (refine ⟨_, rfl, ?_⟩; refine hK _ _ (HP.W (F1 := [_])) ?_; clear hK K; go_frame)
    (refine hw_one 6 (by decide +kernel) ⟨_, rfl, rfl, fun K hK => ?_⟩)
    (refine hw_callk (vs := [.pointer (some ⟨gw, 0, none⟩), .agg (mgC V.x.m).toArray]) (qsend_v HP hi1k hcn (MgS.old hMR _) HO.out HR.out HL.out) cf_rsend rfl rfl rfl (fun e w1 hp => ?_); obtain ⟨rfl, Z2, hZ2, HP2⟩ := hp)
    replace hMm := hMm.mono (fun y hy => (List.mem_append.1 hy).elim (List.mem_append_left _) (fun h => List.mem_append_right _ (hZ2 h)))
    clear HP hZ2; have HP := HP2; clear HP2
    (refine ⟨_, rfl, ?_⟩; refine hK _ _ (HP.W (F1 := [_])) ?_; clear hK K; go_frame)
    have hS := HP.W (F1 := [_])
    (refine hw_take hS 7 (by decide +kernel) (by decide +kernel) (by decide +kernel) ⟨_, rfl, rfl, ?_, ?_, fun _ _ _ h => hQp _ _ _ _ _ h, ?_⟩; rotate_left; (intro w _; go_simp; try with_reducible rfl); go_frame); (refine hw_take hS 8 (by decide +kernel) (by decide +kernel) (by decide +kernel) ⟨_, rfl, rfl, ?_, ?_, fun _ _ _ h => hQp _ _ _ _ _ h, ?_⟩; rotate_left; (intro w _; go_simp; try with_reducible rfl); go_frame)
    (refine hw_take hS 9 (by decide +kernel) (by decide +kernel) (by decide +kernel) ⟨_, rfl, rfl, _, fun w h => ex_load rfl rfl (hw_lda (by kernel_rfl) s_Msg .z rfl w h), fun _ _ _ h => hQp _ _ _ _ _ h, ?_⟩; go_frame)
    (refine hw_take hS 10 (by decide +kernel) (by decide +kernel) (by decide +kernel) ⟨_, rfl, rfl, ?_, ?_, fun _ _ _ h => hQp _ _ _ _ _ h, ?_⟩; rotate_left; (intro w _; go_simp; try with_reducible rfl); go_frame)
    (refine hw_take hS 11 (by decide +kernel) (by decide +kernel) (by decide +kernel) ⟨_, rfl, rfl, _, fun w h => ex_load rfl rfl (hw_lds (vs := mgC V.x.m) (by kernel_rfl) s_Msg (.s .z) rfl rfl w h), fun _ _ _ h => hQp _ _ _ _ _ h, ?_⟩; go_frame)
    clear hS
    (refine hw_one 12 (by decide +kernel) ⟨_, rfl, rfl, fun K hK => ?_⟩)
    refine hw_callk (vs := [.agg (mgC (cpM V.x.m V.x.rs V.x.l A1 c1 A2 c2)).toArray, .agg (mgC V.x.m).toArray]) (rsame_v (hsame.out A1 A2 c1 c2) (HP.MS hMm) (hMR.below HP.below)) cf_rsame rfl rfl rfl (fun e w1 hp => ?_)
    obtain ⟨rfl, hb⟩ := hp
    replace HP := HP.call hb
    clear hb
    (refine ⟨_, rfl, ?_⟩; refine hK _ _ (HP.W (F1 := [_])) ?_; clear hK K; go_frame)
    have hS := HP.W (F1 := [_])
    (refine hw_take hS 13 (by decide +kernel) (by decide +kernel) (by decide +kernel) ⟨_, rfl, rfl, ?_, ?_, fun _ _ _ h => hQp _ _ _ _ _ h, ?_⟩; rotate_left; (intro w _; go_simp; try with_reducible rfl); go_frame); (refine hw_take hS 14 (by decide +kernel) (by decide +kernel) (by decide +kernel) ⟨_, rfl, rfl, ?_, ?_, fun _ _ _ h => hQp _ _ _ _ _ h, ?_⟩; rotate_left; (intro w _; go_simp; try with_reducible rfl); go_frame)
    clear hS hMm hox
    refine wpAnyH_done (by kernel_rfl) ?_ _
    go_wp2_with (fail)
    have hat : MnRel wB g gw n cut L i A2 c2 V.x.l.length (.blk gm 34 (mgC (cpM V.x.m V.x.rs V.x.l A1 c1 A2 c2))) (.blk g9 58 (acC V)) Z2 (.int .i64 (0 : Nat)) w1 := ⟨0, _, rfl, Nat.zero_le _, rfl, HP⟩
    clear HP
    go_loopw [11] (fun v wr => MnRel wB g gw n cut L i A2 c2 V.x.l.length (.blk gm 34 (mgC (cpM V.x.m V.x.rs V.x.l A1 c1 A2 c2))) (.blk g9 58 (acC V)) Z2 v wr) (fun v _ => V.x.l.length - (intOf v).toNat)
    case atStart => exact hat
    case round =>
      clear hat
      obtain ⟨j, l, rfl, hj, hl, HP⟩ := hrel
      by_cases hjl : j < V.x.l.length
      · have hj1 : IntKind.i64.wrap ((j : Int) + 1) = ((j + 1 : Nat) : Int) := IntWalk.i64_in _ (by omega)
        have hjl2 : j < l.length := by omega
        have how : Own wr wB.heap.size A2 c2 l := HP.hold (List.mem_append_left _ List.mem_cons_self)
        obtain ⟨gB, rfl⟩ := own_at (A := A2) (m := l.length) (c := c2) how (by omega)
        have hby := how.cell j hjl2
        have hby2 : 0 ≤ (l[j].toNat : Int) ∧ (l[j].toNat : Int) < 256 := ⟨by omega, by have := l[j].toNat_lt; omega⟩
        clear how
        have HLL := Lib.hid hl
        clear hl
        go_wp2_with (first | ((with_reducible refine PlZ.ldc HP ?_); refine ⟨rfl, c_bytes, _, _, rfl, 1, _, _, rfl, .slice (some ⟨gB, 0, none⟩) V.x.l.length c2, rfl, ?_⟩; go_frame) | ((with_reducible refine wl_ldc ?_); refine ⟨rfl, c_u8, _, rfl, _, hby, ?_⟩; go_frame) | ((with_reducible refine PlZ.stB HP ?_); refine ⟨rfl, _, _, rfl, _, rfl, ⟨by omega, by omega⟩, 0, _, _, rfl, hjl2, ?_⟩; (clear HP; intro u w1 HP; simp only [List.set] at HP); go_frame))
        go_roundw
        case rel => exact ⟨j + 1, _, rfl, hjl, by rw [List.length_set]; exact HLL.out, HP⟩
        case measure => show V.x.l.length - (j + 1) < V.x.l.length - j; omega
      · obtain rfl : j = V.x.l.length := by omega
        have hjj : decide ((V.x.l.length : Int) < (V.x.l.length : Int)) = false := decide_eq_false (by omega)
        go_wp2_with (first | ((with_reducible refine PlZ.ldc HP ?_); refine ⟨rfl, c_bytes, _, _, rfl, 1, _, _, rfl, .slice A2 V.x.l.length c2, rfl, ?_⟩; go_frame))
        delta NpFr at hJ
        go_meet
        case rel => exact ⟨cut, L, _, (HP.sub (List.sublist_append_right [_, _] _)).le (Nat.le_succ i)⟩
end Go.Proofs.YtiieakndjheknaaDoor
