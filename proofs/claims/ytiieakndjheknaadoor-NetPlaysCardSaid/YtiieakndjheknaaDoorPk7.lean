import Derived.Test.YtiieakndjheknaaDoorNpW
/-
  NetPlays: the switch's way 'none'.
-/
namespace Go.Proofs.YtiieakndjheknaaDoor
set_option maxRecDepth 100000
open Go.RowKit
set_option linter.unusedVariables false
set_option linter.unusedSimpArgs false
set_option maxHeartbeats 40000000 in
theorem pw_none {wB w1 : World} {g gw g9 i q : Nat} {n : Int} {V : Ac} {cut : List Bool} {cs : List MX} {Z : List Item} {J K' : Act → World → Prop} {Q' : Exit → Act → World → Prop} {c1 c2 c3 e4 c6 e10 e11 e12 e13 e14 e15 e16 e17 c18 c19 c20 c21 c22 c23 c24 c25 c26 c27 c28 c29 c30 c31 c32 c33 c34 c35 c36 c37 c38 c39 c40 c41 c42 c43 c44 e45 e46 e47 e48 e49 e50 e51 e52 e53 e54 e55 e56 e58 e59 e60 e61 e62 e63 e64 e65 e66 e67 e68 e69 e70 e71 e72 e73 e74 e75 e76 e77 e78 e79 e80 e81 e82 e83 e84 e85 e86 e87 e88 e89 e90 e91 e92 e93 e94 e95 e96 e97 e98 e99 e100 e101 e102 e103 e104 e105 e106 e107 e108 e109 e110 e111 e112 e113 e114 e115 e116 e117 e118 e119 e120 e121 e122 e123 e124 e125 e126 e127 e128 e129 e130 e131 e132 e133 e134 e135 e136 e137 e138 e139 e140 e141 e142 e143 e144 e145 e146 e147 e148 e149 e150 e151 e152 e153 e154 e155 e156 e157 e158 e159 e160 e161 e162 e163 e164 e165 e166 e167 e168 e169 e170 e171 e172 e173 e174 e175 e176 e177 e178 e179 e180 e181 e182 e183 e184 e185 e186 e187 e188 e189 e190 e191 e192 e193 e194 e195 e196 e197 e198 e199 e200 e201 e202 e203 e204 e205 e206 e207 e208 e209 e210 e211 e212 e213 e214 e215 e216 e217 e218 e219 e220 e221 e222 e223 e224 e225 e226 e227 e228 e229 e230 e231 e232 e233 e234 : Value}
    (hk : q = 9) (hFC : FldW wB) (hcn : crowdB n = true) (hi3 : i < 300) (haM : V.a ≤ 9223372036854775807) (ho : OkX V.x) (hMR : MgR wB V.x.m V.x.rs V.x.l) (HP : PlZ wB w1 g gw n cut cs cut cs i [.blk g9 58 (acC V)] Z) (hQp : ∀ (c : List PanicEntry) (d : Tmp) (v : Value) (a : Act) (w : World), Q' (.panic c) (a.put (some d) v) w → Q' (.panic c) a w) (hM : ∀ (a' : Act) (w' : World), Met J a' w' → K' a' w') (hJ : ∀ (a' : Act) (w' : World), NpFr wB g gw g9 i q n V c1 c2 c3 c6 c18 c19 c20 c21 c22 c23 c24 c25 c26 c27 c28 c29 c30 c31 c32 c33 c34 c35 c36 c37 c38 c39 c40 c41 c42 c43 c44 a' w' → J a' w') :
    Code.wp Tryd.prog swP (Exit.then K' Q') ⟨#[.int .i64 n, c1, c2, c3, e4, .pointer (some ⟨g, 0, none⟩), c6, .pointer (some ⟨gw, 0, none⟩), .int .i64 (i : Int), .pointer (some ⟨g9, 0, none⟩), e10, e11, e12, e13, e14, e15, e16, e17, c18, c19, c20, c21, c22, c23, c24, c25, c26, c27, c28, c29, c30, c31, c32, c33, c34, c35, c36, c37, c38, c39, c40, c41, c42, c43, c44, e45, e46, e47, e48, e49, e50, e51, e52, e53, e54, e55, e56, .int .u8 (q : Int), e58, e59, e60, e61, e62, e63, e64, e65, e66, e67, e68, e69, e70, e71, e72, e73, e74, e75, e76, e77, e78, e79, e80, e81, e82, e83, e84, e85, e86, e87, e88, e89, e90, e91, e92, e93, e94, e95, e96, e97, e98, e99, e100, e101, e102, e103, e104, e105, e106, e107, e108, e109, e110, e111, e112, e113, e114, e115, e116, e117, e118, e119, e120, e121, e122, e123, e124, e125, e126, e127, e128, e129, e130, e131, e132, e133, e134, e135, e136, e137, e138, e139, e140, e141, e142, e143, e144, e145, e146, e147, e148, e149, e150, e151, e152, e153, e154, e155, e156, e157, e158, e159, e160, e161, e162, e163, e164, e165, e166, e167, e168, e169, e170, e171, e172, e173, e174, e175, e176, e177, e178, e179, e180, e181, e182, e183, e184, e185, e186, e187, e188, e189, e190, e191, e192, e193, e194, e195, e196, e197, e198, e199, e200, e201, e202, e203, e204, e205, e206, e207, e208, e209, e210, e211, e212, e213, e214, e215, e216, e217, e218, e219, e220, e221, e222, e223, e224, e225, e226, e227, e228, e229, e230, e231, e232, e233, e234], []⟩ w1 := by
  conv => arg 2; whnf
  subst hk
  as_aux_lemma =>
    go_wp2_with (fail)
    delta NpFr at hJ
    go_meet
    case rel => exact ⟨cut, cs, Z, HP.le (Nat.le_succ i)⟩
end Go.Proofs.YtiieakndjheknaaDoor

/-
  NetPlays: the switch's way 'heal'.
-/
namespace Go.Proofs.YtiieakndjheknaaDoor
set_option maxRecDepth 100000
open Go.RowKit
set_option linter.unusedVariables false
set_option linter.unusedSimpArgs false
set_option maxHeartbeats 40000000 in
theorem pw_heal {wB w1 : World} {g gw g9 i q : Nat} {n : Int} {V : Ac} {cut : List Bool} {cs : List MX} {Z : List Item} {J K' : Act → World → Prop} {Q' : Exit → Act → World → Prop} {c1 c2 c3 e4 c6 e10 e11 e12 e13 e14 e15 e16 e17 c18 c19 c20 c21 c22 c23 c24 c25 c26 c27 c28 c29 c30 c31 c32 c33 c34 c35 c36 c37 c38 c39 c40 c41 c42 c43 c44 e45 e46 e47 e48 e49 e50 e51 e52 e53 e54 e55 e56 e58 e59 e60 e61 e62 e63 e64 e65 e66 e67 e68 e69 e70 e71 e72 e73 e74 e75 e76 e77 e78 e79 e80 e81 e82 e83 e84 e85 e86 e87 e88 e89 e90 e91 e92 e93 e94 e95 e96 e97 e98 e99 e100 e101 e102 e103 e104 e105 e106 e107 e108 e109 e110 e111 e112 e113 e114 e115 e116 e117 e118 e119 e120 e121 e122 e123 e124 e125 e126 e127 e128 e129 e130 e131 e132 e133 e134 e135 e136 e137 e138 e139 e140 e141 e142 e143 e144 e145 e146 e147 e148 e149 e150 e151 e152 e153 e154 e155 e156 e157 e158 e159 e160 e161 e162 e163 e164 e165 e166 e167 e168 e169 e170 e171 e172 e173 e174 e175 e176 e177 e178 e179 e180 e181 e182 e183 e184 e185 e186 e187 e188 e189 e190 e191 e192 e193 e194 e195 e196 e197 e198 e199 e200 e201 e202 e203 e204 e205 e206 e207 e208 e209 e210 e211 e212 e213 e214 e215 e216 e217 e218 e219 e220 e221 e222 e223 e224 e225 e226 e227 e228 e229 e230 e231 e232 e233 e234 : Value}
    (hk : q = 8) (hFC : FldW wB) (hcn : crowdB n = true) (hi3 : i < 300) (haM : V.a ≤ 9223372036854775807) (ho : OkX V.x) (hMR : MgR wB V.x.m V.x.rs V.x.l) (HP : PlZ wB w1 g gw n cut cs cut cs i [.blk g9 58 (acC V)] Z) (hQp : ∀ (c : List PanicEntry) (d : Tmp) (v : Value) (a : Act) (w : World), Q' (.panic c) (a.put (some d) v) w → Q' (.panic c) a w) (hM : ∀ (a' : Act) (w' : World), Met J a' w' → K' a' w') (hJ : ∀ (a' : Act) (w' : World), NpFr wB g gw g9 i q n V c1 c2 c3 c6 c18 c19 c20 c21 c22 c23 c24 c25 c26 c27 c28 c29 c30 c31 c32 c33 c34 c35 c36 c37 c38 c39 c40 c41 c42 c43 c44 a' w' → J a' w') :
    Code.wp Tryd.prog swP (Exit.then K' Q') ⟨#[.int .i64 n, c1, c2, c3, e4, .pointer (some ⟨g, 0, none⟩), c6, .pointer (some ⟨gw, 0, none⟩), .int .i64 (i : Int), .pointer (some ⟨g9, 0, none⟩), e10, e11, e12, e13, e14, e15, e16, e17, c18, c19, c20, c21, c22, c23, c24, c25, c26, c27, c28, c29, c30, c31, c32, c33, c34, c35, c36, c37, c38, c39, c40, c41, c42, c43, c44, e45, e46, e47, e48, e49, e50, e51, e52, e53, e54, e55, e56, .int .u8 (q : Int), e58, e59, e60, e61, e62, e63, e64, e65, e66, e67, e68, e69, e70, e71, e72, e73, e74, e75, e76, e77, e78, e79, e80, e81, e82, e83, e84, e85, e86, e87, e88, e89, e90, e91, e92, e93, e94, e95, e96, e97, e98, e99, e100, e101, e102, e103, e104, e105, e106, e107, e108, e109, e110, e111, e112, e113, e114, e115, e116, e117, e118, e119, e120, e121, e122, e123, e124, e125, e126, e127, e128, e129, e130, e131, e132, e133, e134, e135, e136, e137, e138, e139, e140, e141, e142, e143, e144, e145, e146, e147, e148, e149, e150, e151, e152, e153, e154, e155, e156, e157, e158, e159, e160, e161, e162, e163, e164, e165, e166, e167, e168, e169, e170, e171, e172, e173, e174, e175, e176, e177, e178, e179, e180, e181, e182, e183, e184, e185, e186, e187, e188, e189, e190, e191, e192, e193, e194, e195, e196, e197, e198, e199, e200, e201, e202, e203, e204, e205, e206, e207, e208, e209, e210, e211, e212, e213, e214, e215, e216, e217, e218, e219, e220, e221, e222, e223, e224, e225, e226, e227, e228, e229, e230, e231, e232, e233, e234], []⟩ w1 := by
  conv => arg 2; whnf
  subst hk
  as_aux_lemma =>
    go_wp2_with (first | ((with_reducible refine (pheal_o HP hcn).mono ?_); rintro _ w1 ⟨rfl, Z2, hZs, HP2⟩; clear HP hZs; (have HP := HP2); clear HP2) | ((with_reducible refine (qheal_o HP).mono ?_); rintro _ w1 ⟨rfl, Z2, hZs, HP2⟩; clear HP hZs; (have HP := HP2); clear HP2))
    delta NpFr at hJ
    go_meet
    case rel => exact ⟨cut0, cs, _, HP.le (Nat.le_succ i)⟩
end Go.Proofs.YtiieakndjheknaaDoor

/-
  NetPlays: the switch's way 'drop'.
-/
namespace Go.Proofs.YtiieakndjheknaaDoor
set_option maxRecDepth 100000
open Go.RowKit
set_option linter.unusedVariables false
set_option linter.unusedSimpArgs false
set_option maxHeartbeats 40000000 in
theorem pw_drop {wB w1 : World} {g gw g9 i q : Nat} {n : Int} {V : Ac} {cut : List Bool} {cs : List MX} {Z : List Item} {J K' : Act → World → Prop} {Q' : Exit → Act → World → Prop} {c1 c2 c3 e4 c6 e10 e11 e12 e13 e14 e15 e16 e17 c18 c19 c20 c21 c22 c23 c24 c25 c26 c27 c28 c29 c30 c31 c32 c33 c34 c35 c36 c37 c38 c39 c40 c41 c42 c43 c44 e45 e46 e47 e48 e49 e50 e51 e52 e53 e54 e55 e56 e58 e59 e60 e61 e62 e63 e64 e65 e66 e67 e68 e69 e70 e71 e72 e73 e74 e75 e76 e77 e78 e79 e80 e81 e82 e83 e84 e85 e86 e87 e88 e89 e90 e91 e92 e93 e94 e95 e96 e97 e98 e99 e100 e101 e102 e103 e104 e105 e106 e107 e108 e109 e110 e111 e112 e113 e114 e115 e116 e117 e118 e119 e120 e121 e122 e123 e124 e125 e126 e127 e128 e129 e130 e131 e132 e133 e134 e135 e136 e137 e138 e139 e140 e141 e142 e143 e144 e145 e146 e147 e148 e149 e150 e151 e152 e153 e154 e155 e156 e157 e158 e159 e160 e161 e162 e163 e164 e165 e166 e167 e168 e169 e170 e171 e172 e173 e174 e175 e176 e177 e178 e179 e180 e181 e182 e183 e184 e185 e186 e187 e188 e189 e190 e191 e192 e193 e194 e195 e196 e197 e198 e199 e200 e201 e202 e203 e204 e205 e206 e207 e208 e209 e210 e211 e212 e213 e214 e215 e216 e217 e218 e219 e220 e221 e222 e223 e224 e225 e226 e227 e228 e229 e230 e231 e232 e233 e234 : Value}
    (hk : q = 6) (hFC : FldW wB) (hcn : crowdB n = true) (hi3 : i < 300) (haM : V.a ≤ 9223372036854775807) (ho : OkX V.x) (hMR : MgR wB V.x.m V.x.rs V.x.l) (HP : PlZ wB w1 g gw n cut cs cut cs i [.blk g9 58 (acC V)] Z) (hQp : ∀ (c : List PanicEntry) (d : Tmp) (v : Value) (a : Act) (w : World), Q' (.panic c) (a.put (some d) v) w → Q' (.panic c) a w) (hM : ∀ (a' : Act) (w' : World), Met J a' w' → K' a' w') (hJ : ∀ (a' : Act) (w' : World), NpFr wB g gw g9 i q n V c1 c2 c3 c6 c18 c19 c20 c21 c22 c23 c24 c25 c26 c27 c28 c29 c30 c31 c32 c33 c34 c35 c36 c37 c38 c39 c40 c41 c42 c43 c44 a' w' → J a' w') :
    Code.wp Tryd.prog swP (Exit.then K' Q') ⟨#[.int .i64 n, c1, c2, c3, e4, .pointer (some ⟨g, 0, none⟩), c6, .pointer (some ⟨gw, 0, none⟩), .int .i64 (i : Int), .pointer (some ⟨g9, 0, none⟩), e10, e11, e12, e13, e14, e15, e16, e17, c18, c19, c20, c21, c22, c23, c24, c25, c26, c27, c28, c29, c30, c31, c32, c33, c34, c35, c36, c37, c38, c39, c40, c41, c42, c43, c44, e45, e46, e47, e48, e49, e50, e51, e52, e53, e54, e55, e56, .int .u8 (q : Int), e58, e59, e60, e61, e62, e63, e64, e65, e66, e67, e68, e69, e70, e71, e72, e73, e74, e75, e76, e77, e78, e79, e80, e81, e82, e83, e84, e85, e86, e87, e88, e89, e90, e91, e92, e93, e94, e95, e96, e97, e98, e99, e100, e101, e102, e103, e104, e105, e106, e107, e108, e109, e110, e111, e112, e113, e114, e115, e116, e117, e118, e119, e120, e121, e122, e123, e124, e125, e126, e127, e128, e129, e130, e131, e132, e133, e134, e135, e136, e137, e138, e139, e140, e141, e142, e143, e144, e145, e146, e147, e148, e149, e150, e151, e152, e153, e154, e155, e156, e157, e158, e159, e160, e161, e162, e163, e164, e165, e166, e167, e168, e169, e170, e171, e172, e173, e174, e175, e176, e177, e178, e179, e180, e181, e182, e183, e184, e185, e186, e187, e188, e189, e190, e191, e192, e193, e194, e195, e196, e197, e198, e199, e200, e201, e202, e203, e204, e205, e206, e207, e208, e209, e210, e211, e212, e213, e214, e215, e216, e217, e218, e219, e220, e221, e222, e223, e224, e225, e226, e227, e228, e229, e230, e231, e232, e233, e234], []⟩ w1 := by
  conv => arg 2; whnf
  obtain ⟨R, hR⟩ : ∃ R : Int, natE cs = R := ⟨_, rfl⟩
  obtain ⟨L, hL⟩ : ∃ L, ntakL cs V.a = L := ⟨_, rfl⟩
  have HR := Lib.hid hR
  have HL := Lib.hid hL
  clear hR hL
  subst hk
  as_aux_lemma =>
    go_wp2_with (first | ((with_reducible refine PlZ.ldc HP ?_); refine ⟨rfl, c_int, _, _, rfl, 0, _, _, rfl, .int .i64 V.a, rfl, ?_⟩; go_frame) | ((with_reducible refine PlZ.ldc HP ?_); refine ⟨rfl, c_int, _, _, rfl, 1, _, _, rfl, .int .i64 V.a, rfl, ?_⟩; go_frame) | ((with_reducible refine (qtake_v HP haM HR.out HL.out).mono ?_); rintro _ w1 ⟨xx, Z2, rfl, hZs, hT, HP2⟩; clear HP hZs hT; (have HP := HP2); clear HP2) | ((with_reducible refine PlZ.allo HP ?_); refine ⟨rfl, _, z_look rfl, ?_⟩; (clear HP; intro gm w1 HP); go_frame) | ((with_reducible refine PlZ.sta HP ?_); refine ⟨rfl, _, s_Msg, rfl, _, rfl, rfl, rfl, rfl, ?_⟩; (clear HP; intro w1 HP); go_frame) | ((with_reducible refine (pdrop_v HP hcn haM HR.out HL.out).mono ?_); rintro _ w1 ⟨rfl, Z2, hZs, HP2⟩; clear HP hZs; (have HP := HP2); clear HP2))
    delta NpFr at hJ
    go_meet
    case rel => exact ⟨cut, L, _, (HP.sub (List.sublist_append_right [_] _)).le (Nat.le_succ i)⟩
end Go.Proofs.YtiieakndjheknaaDoor

/-
  NetPlays: the switch's way 'take'.
-/
namespace Go.Proofs.YtiieakndjheknaaDoor
set_option maxRecDepth 100000
open Go.RowKit
set_option linter.unusedVariables false
set_option linter.unusedSimpArgs false
set_option maxHeartbeats 40000000 in
theorem pw_take {wB w1 : World} {g gw g9 i q : Nat} {n : Int} {V : Ac} {cut : List Bool} {cs : List MX} {Z : List Item} {J K' : Act → World → Prop} {Q' : Exit → Act → World → Prop} {c1 c2 c3 e4 c6 e10 e11 e12 e13 e14 e15 e16 e17 c18 c19 c20 c21 c22 c23 c24 c25 c26 c27 c28 c29 c30 c31 c32 c33 c34 c35 c36 c37 c38 c39 c40 c41 c42 c43 c44 e45 e46 e47 e48 e49 e50 e51 e52 e53 e54 e55 e56 e58 e59 e60 e61 e62 e63 e64 e65 e66 e67 e68 e69 e70 e71 e72 e73 e74 e75 e76 e77 e78 e79 e80 e81 e82 e83 e84 e85 e86 e87 e88 e89 e90 e91 e92 e93 e94 e95 e96 e97 e98 e99 e100 e101 e102 e103 e104 e105 e106 e107 e108 e109 e110 e111 e112 e113 e114 e115 e116 e117 e118 e119 e120 e121 e122 e123 e124 e125 e126 e127 e128 e129 e130 e131 e132 e133 e134 e135 e136 e137 e138 e139 e140 e141 e142 e143 e144 e145 e146 e147 e148 e149 e150 e151 e152 e153 e154 e155 e156 e157 e158 e159 e160 e161 e162 e163 e164 e165 e166 e167 e168 e169 e170 e171 e172 e173 e174 e175 e176 e177 e178 e179 e180 e181 e182 e183 e184 e185 e186 e187 e188 e189 e190 e191 e192 e193 e194 e195 e196 e197 e198 e199 e200 e201 e202 e203 e204 e205 e206 e207 e208 e209 e210 e211 e212 e213 e214 e215 e216 e217 e218 e219 e220 e221 e222 e223 e224 e225 e226 e227 e228 e229 e230 e231 e232 e233 e234 : Value}
    (hk : q = 4) (hFC : FldW wB) (hcn : crowdB n = true) (hi3 : i < 300) (haM : V.a ≤ 9223372036854775807) (ho : OkX V.x) (hMR : MgR wB V.x.m V.x.rs V.x.l) (HP : PlZ wB w1 g gw n cut cs cut cs i [.blk g9 58 (acC V)] Z) (hQp : ∀ (c : List PanicEntry) (d : Tmp) (v : Value) (a : Act) (w : World), Q' (.panic c) (a.put (some d) v) w → Q' (.panic c) a w) (hM : ∀ (a' : Act) (w' : World), Met J a' w' → K' a' w') (hJ : ∀ (a' : Act) (w' : World), NpFr wB g gw g9 i q n V c1 c2 c3 c6 c18 c19 c20 c21 c22 c23 c24 c25 c26 c27 c28 c29 c30 c31 c32 c33 c34 c35 c36 c37 c38 c39 c40 c41 c42 c43 c44 a' w' → J a' w') :
    Code.wp Tryd.prog swP (Exit.then K' Q') ⟨#[.int .i64 n, c1, c2, c3, e4, .pointer (some ⟨g, 0, none⟩), c6, .pointer (some ⟨gw, 0, none⟩), .int .i64 (i : Int), .pointer (some ⟨g9, 0, none⟩), e10, e11, e12, e13, e14, e15, e16, e17, c18, c19, c20, c21, c22, c23, c24, c25, c26, c27, c28, c29, c30, c31, c32, c33, c34, c35, c36, c37, c38, c39, c40, c41, c42, c43, c44, e45, e46, e47, e48, e49, e50, e51, e52, e53, e54, e55, e56, .int .u8 (q : Int), e58, e59, e60, e61, e62, e63, e64, e65, e66, e67, e68, e69, e70, e71, e72, e73, e74, e75, e76, e77, e78, e79, e80, e81, e82, e83, e84, e85, e86, e87, e88, e89, e90, e91, e92, e93, e94, e95, e96, e97, e98, e99, e100, e101, e102, e103, e104, e105, e106, e107, e108, e109, e110, e111, e112, e113, e114, e115, e116, e117, e118, e119, e120, e121, e122, e123, e124, e125, e126, e127, e128, e129, e130, e131, e132, e133, e134, e135, e136, e137, e138, e139, e140, e141, e142, e143, e144, e145, e146, e147, e148, e149, e150, e151, e152, e153, e154, e155, e156, e157, e158, e159, e160, e161, e162, e163, e164, e165, e166, e167, e168, e169, e170, e171, e172, e173, e174, e175, e176, e177, e178, e179, e180, e181, e182, e183, e184, e185, e186, e187, e188, e189, e190, e191, e192, e193, e194, e195, e196, e197, e198, e199, e200, e201, e202, e203, e204, e205, e206, e207, e208, e209, e210, e211, e212, e213, e214, e215, e216, e217, e218, e219, e220, e221, e222, e223, e224, e225, e226, e227, e228, e229, e230, e231, e232, e233, e234], []⟩ w1 := by
  conv => arg 2; whnf
  obtain ⟨R, hR⟩ : ∃ R : Int, natE cs = R := ⟨_, rfl⟩
  obtain ⟨L, hL⟩ : ∃ L, ntakL cs V.a = L := ⟨_, rfl⟩
  have HR := Lib.hid hR
  have HL := Lib.hid hL
  clear hR hL
  subst hk
  as_aux_lemma =>
    go_wp2_with (first | ((with_reducible refine PlZ.ldc HP ?_); refine ⟨rfl, c_int, _, _, rfl, 0, _, _, rfl, .int .i64 V.a, rfl, ?_⟩; go_frame) | ((with_reducible refine PlZ.ldc HP ?_); refine ⟨rfl, c_int, _, _, rfl, 1, _, _, rfl, .int .i64 V.a, rfl, ?_⟩; go_frame) | ((with_reducible refine PlZ.lda HP ?_); refine ⟨rfl, by kernel_rfl, _, rfl, 1, _, _, rfl, s_Msg, ?_⟩; go_frame) | ((with_reducible refine PlZ.lda HP ?_); refine ⟨rfl, by kernel_rfl, _, rfl, 0, _, _, rfl, s_Msg, ?_⟩; go_frame) | ((with_reducible refine (ptake_v HP hcn haM HR.out HL.out).mono ?_); rintro _ w1 ⟨x1, Z2, rfl, hZs, hT1, HP2⟩; clear HP hZs; (have HP := HP2); clear HP2) | ((with_reducible refine (qtake_v HP haM HR.out HL.out).mono ?_); rintro _ w1 ⟨x2, Z3, rfl, hZs, hT2, HP2⟩; (replace hT1 := hT1.mono hZs); clear HP hZs; (have HP := HP2); clear HP2) | ((with_reducible refine PlZ.allo HP ?_); refine ⟨rfl, _, z_look rfl, ?_⟩; (clear HP; intro gm w1 HP); go_frame) | ((with_reducible refine PlZ.sta HP ?_); refine ⟨rfl, _, s_Msg, rfl, _, rfl, rfl, rfl, rfl, ?_⟩; (clear HP; intro w1 HP); go_frame) | ((with_reducible refine (rsame_v (hT1.same hT2) (HP.MS ((hT1.S wB).mono (sub_app _ _))) (HP.MS ((hT2.S wB).mono (sub_app _ _)))).mono ?_); rintro _ w1 ⟨rfl, hb⟩; replace HP := HP.call hb; clear hb))
    delta NpFr at hJ
    go_meet
    case rel => exact ⟨cut, L, _, (HP.sub (List.sublist_append_right [_, _] _)).le (Nat.le_succ i)⟩
end Go.Proofs.YtiieakndjheknaaDoor

/-
  NetPlays: the switch's way 'copy'.
-/
namespace Go.Proofs.YtiieakndjheknaaDoor
set_option maxRecDepth 100000
open Go.RowKit
set_option linter.unusedVariables false
set_option linter.unusedSimpArgs false
set_option maxHeartbeats 40000000 in
theorem pw_copy {wB w1 : World} {g gw g9 i q : Nat} {n : Int} {V : Ac} {cut : List Bool} {cs : List MX} {Z : List Item} {J K' : Act → World → Prop} {Q' : Exit → Act → World → Prop} {c1 c2 c3 e4 c6 e10 e11 e12 e13 e14 e15 e16 e17 c18 c19 c20 c21 c22 c23 c24 c25 c26 c27 c28 c29 c30 c31 c32 c33 c34 c35 c36 c37 c38 c39 c40 c41 c42 c43 c44 e45 e46 e47 e48 e49 e50 e51 e52 e53 e54 e55 e56 e58 e59 e60 e61 e62 e63 e64 e65 e66 e67 e68 e69 e70 e71 e72 e73 e74 e75 e76 e77 e78 e79 e80 e81 e82 e83 e84 e85 e86 e87 e88 e89 e90 e91 e92 e93 e94 e95 e96 e97 e98 e99 e100 e101 e102 e103 e104 e105 e106 e107 e108 e109 e110 e111 e112 e113 e114 e115 e116 e117 e118 e119 e120 e121 e122 e123 e124 e125 e126 e127 e128 e129 e130 e131 e132 e133 e134 e135 e136 e137 e138 e139 e140 e141 e142 e143 e144 e145 e146 e147 e148 e149 e150 e151 e152 e153 e154 e155 e156 e157 e158 e159 e160 e161 e162 e163 e164 e165 e166 e167 e168 e169 e170 e171 e172 e173 e174 e175 e176 e177 e178 e179 e180 e181 e182 e183 e184 e185 e186 e187 e188 e189 e190 e191 e192 e193 e194 e195 e196 e197 e198 e199 e200 e201 e202 e203 e204 e205 e206 e207 e208 e209 e210 e211 e212 e213 e214 e215 e216 e217 e218 e219 e220 e221 e222 e223 e224 e225 e226 e227 e228 e229 e230 e231 e232 e233 e234 : Value}
    (hk : q = 5) (hFC : FldW wB) (hcn : crowdB n = true) (hi3 : i < 300) (haM : V.a ≤ 9223372036854775807) (ho : OkX V.x) (hMR : MgR wB V.x.m V.x.rs V.x.l) (HP : PlZ wB w1 g gw n cut cs cut cs i [.blk g9 58 (acC V)] Z) (hQp : ∀ (c : List PanicEntry) (d : Tmp) (v : Value) (a : Act) (w : World), Q' (.panic c) (a.put (some d) v) w → Q' (.panic c) a w) (hM : ∀ (a' : Act) (w' : World), Met J a' w' → K' a' w') (hJ : ∀ (a' : Act) (w' : World), NpFr wB g gw g9 i q n V c1 c2 c3 c6 c18 c19 c20 c21 c22 c23 c24 c25 c26 c27 c28 c29 c30 c31 c32 c33 c34 c35 c36 c37 c38 c39 c40 c41 c42 c43 c44 a' w' → J a' w') :
    Code.wp Tryd.prog swP (Exit.then K' Q') ⟨#[.int .i64 n, c1, c2, c3, e4, .pointer (some ⟨g, 0, none⟩), c6, .pointer (some ⟨gw, 0, none⟩), .int .i64 (i : Int), .pointer (some ⟨g9, 0, none⟩), e10, e11, e12, e13, e14, e15, e16, e17, c18, c19, c20, c21, c22, c23, c24, c25, c26, c27, c28, c29, c30, c31, c32, c33, c34, c35, c36, c37, c38, c39, c40, c41, c42, c43, c44, e45, e46, e47, e48, e49, e50, e51, e52, e53, e54, e55, e56, .int .u8 (q : Int), e58, e59, e60, e61, e62, e63, e64, e65, e66, e67, e68, e69, e70, e71, e72, e73, e74, e75, e76, e77, e78, e79, e80, e81, e82, e83, e84, e85, e86, e87, e88, e89, e90, e91, e92, e93, e94, e95, e96, e97, e98, e99, e100, e101, e102, e103, e104, e105, e106, e107, e108, e109, e110, e111, e112, e113, e114, e115, e116, e117, e118, e119, e120, e121, e122, e123, e124, e125, e126, e127, e128, e129, e130, e131, e132, e133, e134, e135, e136, e137, e138, e139, e140, e141, e142, e143, e144, e145, e146, e147, e148, e149, e150, e151, e152, e153, e154, e155, e156, e157, e158, e159, e160, e161, e162, e163, e164, e165, e166, e167, e168, e169, e170, e171, e172, e173, e174, e175, e176, e177, e178, e179, e180, e181, e182, e183, e184, e185, e186, e187, e188, e189, e190, e191, e192, e193, e194, e195, e196, e197, e198, e199, e200, e201, e202, e203, e204, e205, e206, e207, e208, e209, e210, e211, e212, e213, e214, e215, e216, e217, e218, e219, e220, e221, e222, e223, e224, e225, e226, e227, e228, e229, e230, e231, e232, e233, e234], []⟩ w1 := by
  conv => arg 2; whnf
  obtain ⟨R, hR⟩ : ∃ R : Int, ncpyR cs = R := ⟨_, rfl⟩
  obtain ⟨L, hL⟩ : ∃ L, ncpyL cs V.a = L := ⟨_, rfl⟩
  have HR := Lib.hid hR
  have HL := Lib.hid hL
  clear hR hL
  subst hk
  as_aux_lemma =>
    go_wp2_with (fail)
    refine hw_startP [.blk g9 58 (acC V)] HP (fun w' h => h.W (F1 := [])) (by kernel_rfl) (fun w1 HP => ?_)
    have hS := HP.W (F1 := [])
    (refine hw_take hS 0 (by decide +kernel) (by decide +kernel) (by decide +kernel) ⟨_, rfl, rfl, ?_, ?_, fun _ _ _ h => hQp _ _ _ _ _ h, ?_⟩; rotate_left; (intro w _; go_simp; try with_reducible rfl); go_frame); (refine hw_take hS 1 (by decide +kernel) (by decide +kernel) (by decide +kernel) ⟨_, rfl, rfl, ?_, ?_, fun _ _ _ h => hQp _ _ _ _ _ h, ?_⟩; rotate_left; (intro w _; go_simp; try with_reducible rfl); go_frame)
    (refine hw_take hS 2 (by decide +kernel) (by decide +kernel) (by decide +kernel) ⟨_, rfl, rfl, _, fun w h => ex_load rfl rfl (hw_ld (v := .int .i64 V.a) (by kernel_rfl) .z rfl w h), fun _ _ _ h => hQp _ _ _ _ _ h, ?_⟩; go_frame)
    (refine hw_take hS 4 (by decide +kernel) (by decide +kernel) (by decide +kernel) ⟨_, rfl, rfl, ?_, ?_, fun _ _ _ h => hQp _ _ _ _ _ h, ?_⟩; rotate_left; (intro w _; go_simp; try with_reducible rfl); go_frame); (refine hw_take hS 5 (by decide +kernel) (by decide +kernel) (by decide +kernel) ⟨_, rfl, rfl, ?_, ?_, fun _ _ _ h => hQp _ _ _ _ _ h, ?_⟩; rotate_left; (intro w _; go_simp; try with_reducible rfl); go_frame)
    (refine hw_take hS 6 (by decide +kernel) (by decide +kernel) (by decide +kernel) ⟨_, rfl, rfl, _, fun w h => ex_load rfl rfl (hw_ld (v := .int .i64 V.a) (by kernel_rfl) .z rfl w h), fun _ _ _ h => hQp _ _ _ _ _ h, ?_⟩; go_frame)
    clear hS
    (refine hw_one 3 (by decide +kernel) ⟨_, rfl, rfl, fun K hK => ?_⟩)
    (refine hw_callk (vs := [.pointer (some ⟨g, 0, none⟩), .int .i64 V.a]) (pcopy_v HP hcn haM HR.out HL.out) cf_ncopy rfl rfl rfl (fun e w1 hp => ?_); obtain ⟨rfl, Z2, hZ2, HP2⟩ := hp)
    clear HP hZ2; have HP := HP2; clear HP2
    (refine ⟨_, rfl, ?_⟩; refine hK _ _ (HP.W (F1 := [])) ?_; clear hK K; go_frame)
    (refine hw_one 7 (by decide +kernel) ⟨_, rfl, rfl, fun K hK => ?_⟩)
    (refine hw_callk (vs := [.pointer (some ⟨gw, 0, none⟩), .int .i64 V.a]) (qcopy_v HP haM HR.out HL.out) cf_rcpy28 rfl rfl rfl (fun e w1 hp => ?_); obtain ⟨rfl, Z2, hZ2, HP2⟩ := hp)
    clear HP hZ2; have HP := HP2; clear HP2
    (refine ⟨_, rfl, ?_⟩; refine hK _ _ (HP.W (F1 := [])) ?_; clear hK K; go_frame)
    have hS := HP.W (F1 := [])
    (refine hw_take hS 8 (by decide +kernel) (by decide +kernel) (by decide +kernel) ⟨_, rfl, rfl, ?_, ?_, fun _ _ _ h => hQp _ _ _ _ _ h, ?_⟩; rotate_left; (intro w _; go_simp; try with_reducible rfl); go_frame)
    clear hS
    refine wpAnyH_done (by kernel_rfl) ?_ _
    go_wp2_with (fail)
    delta NpFr at hJ
    go_meet
    case rel => exact ⟨cut, L, _, HP.le (Nat.le_succ i)⟩
end Go.Proofs.YtiieakndjheknaaDoor

/-
  NetPlays: the switch's way 'cut'.
-/
namespace Go.Proofs.YtiieakndjheknaaDoor
set_option maxRecDepth 100000
open Go.RowKit
set_option linter.unusedVariables false
set_option linter.unusedSimpArgs false
set_option maxHeartbeats 40000000 in
theorem pw_cut {wB w1 : World} {g gw g9 i q : Nat} {n : Int} {V : Ac} {cut : List Bool} {cs : List MX} {Z : List Item} {J K' : Act → World → Prop} {Q' : Exit → Act → World → Prop} {c1 c2 c3 e4 c6 e10 e11 e12 e13 e14 e15 e16 e17 c18 c19 c20 c21 c22 c23 c24 c25 c26 c27 c28 c29 c30 c31 c32 c33 c34 c35 c36 c37 c38 c39 c40 c41 c42 c43 c44 e45 e46 e47 e48 e49 e50 e51 e52 e53 e54 e55 e56 e58 e59 e60 e61 e62 e63 e64 e65 e66 e67 e68 e69 e70 e71 e72 e73 e74 e75 e76 e77 e78 e79 e80 e81 e82 e83 e84 e85 e86 e87 e88 e89 e90 e91 e92 e93 e94 e95 e96 e97 e98 e99 e100 e101 e102 e103 e104 e105 e106 e107 e108 e109 e110 e111 e112 e113 e114 e115 e116 e117 e118 e119 e120 e121 e122 e123 e124 e125 e126 e127 e128 e129 e130 e131 e132 e133 e134 e135 e136 e137 e138 e139 e140 e141 e142 e143 e144 e145 e146 e147 e148 e149 e150 e151 e152 e153 e154 e155 e156 e157 e158 e159 e160 e161 e162 e163 e164 e165 e166 e167 e168 e169 e170 e171 e172 e173 e174 e175 e176 e177 e178 e179 e180 e181 e182 e183 e184 e185 e186 e187 e188 e189 e190 e191 e192 e193 e194 e195 e196 e197 e198 e199 e200 e201 e202 e203 e204 e205 e206 e207 e208 e209 e210 e211 e212 e213 e214 e215 e216 e217 e218 e219 e220 e221 e222 e223 e224 e225 e226 e227 e228 e229 e230 e231 e232 e233 e234 : Value}
    (hk : q = 7) (hFC : FldW wB) (hcn : crowdB n = true) (hi3 : i < 300) (haM : V.a ≤ 9223372036854775807) (ho : OkX V.x) (hMR : MgR wB V.x.m V.x.rs V.x.l) (HP : PlZ wB w1 g gw n cut cs cut cs i [.blk g9 58 (acC V)] Z) (hQp : ∀ (c : List PanicEntry) (d : Tmp) (v : Value) (a : Act) (w : World), Q' (.panic c) (a.put (some d) v) w → Q' (.panic c) a w) (hM : ∀ (a' : Act) (w' : World), Met J a' w' → K' a' w') (hJ : ∀ (a' : Act) (w' : World), NpFr wB g gw g9 i q n V c1 c2 c3 c6 c18 c19 c20 c21 c22 c23 c24 c25 c26 c27 c28 c29 c30 c31 c32 c33 c34 c35 c36 c37 c38 c39 c40 c41 c42 c43 c44 a' w' → J a' w') :
    Code.wp Tryd.prog swP (Exit.then K' Q') ⟨#[.int .i64 n, c1, c2, c3, e4, .pointer (some ⟨g, 0, none⟩), c6, .pointer (some ⟨gw, 0, none⟩), .int .i64 (i : Int), .pointer (some ⟨g9, 0, none⟩), e10, e11, e12, e13, e14, e15, e16, e17, c18, c19, c20, c21, c22, c23, c24, c25, c26, c27, c28, c29, c30, c31, c32, c33, c34, c35, c36, c37, c38, c39, c40, c41, c42, c43, c44, e45, e46, e47, e48, e49, e50, e51, e52, e53, e54, e55, e56, .int .u8 (q : Int), e58, e59, e60, e61, e62, e63, e64, e65, e66, e67, e68, e69, e70, e71, e72, e73, e74, e75, e76, e77, e78, e79, e80, e81, e82, e83, e84, e85, e86, e87, e88, e89, e90, e91, e92, e93, e94, e95, e96, e97, e98, e99, e100, e101, e102, e103, e104, e105, e106, e107, e108, e109, e110, e111, e112, e113, e114, e115, e116, e117, e118, e119, e120, e121, e122, e123, e124, e125, e126, e127, e128, e129, e130, e131, e132, e133, e134, e135, e136, e137, e138, e139, e140, e141, e142, e143, e144, e145, e146, e147, e148, e149, e150, e151, e152, e153, e154, e155, e156, e157, e158, e159, e160, e161, e162, e163, e164, e165, e166, e167, e168, e169, e170, e171, e172, e173, e174, e175, e176, e177, e178, e179, e180, e181, e182, e183, e184, e185, e186, e187, e188, e189, e190, e191, e192, e193, e194, e195, e196, e197, e198, e199, e200, e201, e202, e203, e204, e205, e206, e207, e208, e209, e210, e211, e212, e213, e214, e215, e216, e217, e218, e219, e220, e221, e222, e223, e224, e225, e226, e227, e228, e229, e230, e231, e232, e233, e234], []⟩ w1 := by
  conv => arg 2; whnf
  obtain ⟨R, hR⟩ : ∃ R : Int, ncutR n V.a V.b = R := ⟨_, rfl⟩
  obtain ⟨C, hC⟩ : ∃ C, ncutC n cut V.a V.b = C := ⟨_, rfl⟩
  obtain ⟨L, hL⟩ : ∃ L, ncutL n cut cs V.a V.b = L := ⟨_, rfl⟩
  have HR := Lib.hid hR
  have HC := Lib.hid hC
  have HL := Lib.hid hL
  have hi1k : i < 1000 := by omega
  clear hR hC hL
  subst hk
  as_aux_lemma =>
    go_wp2_with (fail)
    refine hw_startP [.blk g9 58 (acC V)] HP (fun w' h => h.W (F1 := [])) (by kernel_rfl) (fun w1 HP => ?_)
    have hS := HP.W (F1 := [])
    (refine hw_take hS 0 (by decide +kernel) (by decide +kernel) (by decide +kernel) ⟨_, rfl, rfl, ?_, ?_, fun _ _ _ h => hQp _ _ _ _ _ h, ?_⟩; rotate_left; (intro w _; go_simp; try with_reducible rfl); go_frame); (refine hw_take hS 1 (by decide +kernel) (by decide +kernel) (by decide +kernel) ⟨_, rfl, rfl, ?_, ?_, fun _ _ _ h => hQp _ _ _ _ _ h, ?_⟩; rotate_left; (intro w _; go_simp; try with_reducible rfl); go_frame)
    (refine hw_take hS 2 (by decide +kernel) (by decide +kernel) (by decide +kernel) ⟨_, rfl, rfl, _, fun w h => ex_load rfl rfl (hw_ld (v := .int .i64 V.a) (by kernel_rfl) .z rfl w h), fun _ _ _ h => hQp _ _ _ _ _ h, ?_⟩; go_frame)
    (refine hw_take hS 3 (by decide +kernel) (by decide +kernel) (by decide +kernel) ⟨_, rfl, rfl, ?_, ?_, fun _ _ _ h => hQp _ _ _ _ _ h, ?_⟩; rotate_left; (intro w _; go_simp; try with_reducible rfl); go_frame)
    (refine hw_take hS 4 (by decide +kernel) (by decide +kernel) (by decide +kernel) ⟨_, rfl, rfl, _, fun w h => ex_load rfl rfl (hw_ld (v := .int .i64 V.b) (by kernel_rfl) .z rfl w h), fun _ _ _ h => hQp _ _ _ _ _ h, ?_⟩; go_frame)
    (refine hw_take hS 6 (by decide +kernel) (by decide +kernel) (by decide +kernel) ⟨_, rfl, rfl, ?_, ?_, fun _ _ _ h => hQp _ _ _ _ _ h, ?_⟩; rotate_left; (intro w _; go_simp; try with_reducible rfl); go_frame); (refine hw_take hS 7 (by decide +kernel) (by decide +kernel) (by decide +kernel) ⟨_, rfl, rfl, ?_, ?_, fun _ _ _ h => hQp _ _ _ _ _ h, ?_⟩; rotate_left; (intro w _; go_simp; try with_reducible rfl); go_frame)
    (refine hw_take hS 8 (by decide +kernel) (by decide +kernel) (by decide +kernel) ⟨_, rfl, rfl, _, fun w h => ex_load rfl rfl (hw_ld (v := .int .i64 V.a) (by kernel_rfl) .z rfl w h), fun _ _ _ h => hQp _ _ _ _ _ h, ?_⟩; go_frame)
    (refine hw_take hS 9 (by decide +kernel) (by decide +kernel) (by decide +kernel) ⟨_, rfl, rfl, ?_, ?_, fun _ _ _ h => hQp _ _ _ _ _ h, ?_⟩; rotate_left; (intro w _; go_simp; try with_reducible rfl); go_frame)
    (refine hw_take hS 10 (by decide +kernel) (by decide +kernel) (by decide +kernel) ⟨_, rfl, rfl, _, fun w h => ex_load rfl rfl (hw_ld (v := .int .i64 V.b) (by kernel_rfl) .z rfl w h), fun _ _ _ h => hQp _ _ _ _ _ h, ?_⟩; go_frame)
    clear hS
    (refine hw_one 5 (by decide +kernel) ⟨_, rfl, rfl, fun K hK => ?_⟩)
    (refine hw_callk (vs := [.pointer (some ⟨g, 0, none⟩), .int .i64 V.a, .int .i64 V.b]) (pcut_v HP hcn HC.out HL.out HR.out) cf_ncut rfl rfl rfl (fun e w1 hp => ?_); obtain ⟨rfl, Z2, hZ2, HP2⟩ := hp)
    clear HP hZ2; have HP := HP2; clear HP2
    (refine ⟨_, rfl, ?_⟩; refine hK _ _ (HP.W (F1 := [])) ?_; clear hK K; go_frame)
    (refine hw_one 11 (by decide +kernel) ⟨_, rfl, rfl, fun K hK => ?_⟩)
    (refine hw_callk (vs := [.pointer (some ⟨gw, 0, none⟩), .int .i64 V.a, .int .i64 V.b]) (qcut_v HP hi1k hcn HC.out HL.out HR.out) cf_rcut rfl rfl rfl (fun e w1 hp => ?_); obtain ⟨rfl, Z2, hZ2, HP2⟩ := hp)
    clear HP hZ2; have HP := HP2; clear HP2
    (refine ⟨_, rfl, ?_⟩; refine hK _ _ (HP.W (F1 := [])) ?_; clear hK K; go_frame)
    have hS := HP.W (F1 := [])
    (refine hw_take hS 12 (by decide +kernel) (by decide +kernel) (by decide +kernel) ⟨_, rfl, rfl, ?_, ?_, fun _ _ _ h => hQp _ _ _ _ _ h, ?_⟩; rotate_left; (intro w _; go_simp; try with_reducible rfl); go_frame)
    clear hS
    refine wpAnyH_done (by kernel_rfl) ?_ _
    go_wp2_with (fail)
    delta NpFr at hJ
    go_meet
    case rel => exact ⟨C, L, _, HP⟩
end Go.Proofs.YtiieakndjheknaaDoor
