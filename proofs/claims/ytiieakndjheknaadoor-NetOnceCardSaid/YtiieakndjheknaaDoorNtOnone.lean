/-
  NetOnce: the switch's way 'none'.
-/
import Derived.Test.YtiieakndjheknaaDoorNtOw
namespace Go.Proofs.YtiieakndjheknaaDoor
set_option maxRecDepth 100000
open Go.RowKit
set_option linter.unusedVariables false
set_option linter.unusedSimpArgs false
set_option maxHeartbeats 40000000 in
theorem sw_none {wB w1 : World} {g g9 m i x y q : Nat} {V : Ac} {cut : List Bool} {cs : List MX} {Af : Option Addr} {cf : Nat} {Z : List Item} {J K' : Act → World → Prop} {Q' : Exit → Act → World → Prop} {c1 c2 c3 e4 c6 e12 e13 e14 e15 e16 e17 e18 e19 e20 e21 c22 c23 c24 c25 c26 c27 c28 c29 c30 c31 c32 c33 c34 c35 c36 c37 c38 c39 c40 e41 e42 e43 e44 e45 e46 e47 e48 e49 e50 e51 e52 e53 e54 e55 e56 e57 e58 e59 e60 e61 e62 e63 e64 e65 e66 e68 e69 e70 e71 e72 e73 e74 e75 e76 e77 e78 e79 e80 e81 e82 e83 e84 e85 e86 e87 e88 e89 e90 e91 e92 e93 e94 e95 e96 e97 e98 e99 e100 e101 e102 e103 e104 e105 e106 e107 e108 e109 e110 e111 e112 e113 e114 e115 e116 e117 e118 e119 e120 e121 e122 e123 e124 e125 e126 e127 e128 e129 e130 e131 e132 e133 e134 e135 e136 e137 e138 e139 e140 e141 e142 e143 e144 e145 e146 e147 e148 e149 e150 e151 e152 e153 e154 e155 e156 e157 e158 e159 e160 e161 e162 e163 e164 e165 e166 e167 e168 e169 e170 e171 e172 e173 e174 e175 e176 e177 e178 e179 e180 e181 e182 e183 e184 e185 e186 e187 e188 e189 e190 e191 e192 e193 e194 e195 e196 e197 e198 e199 e200 e201 e202 e203 e204 e205 e206 e207 e208 e209 e210 e211 e212 e213 e214 e215 e216 e217 e218 e219 e220 e221 e222 e223 e224 e225 e226 e227 e228 e229 e230 e231 e232 e233 e234 e235 e236 e237 e238 e239 e240 e241 e242 e243 e244 e245 e246 e247 e248 e249 e250 e251 e252 e253 e254 e255 e256 e257 e258 e259 e260 e261 e262 e263 e264 e265 e266 e267 e268 e269 e270 e271 e272 e273 e274 e275 e276 e277 : Value}
    (hk : q = 9) (hFC : FldW wB) (hcn : crowdB (m : Int) = true) (hm7 : m ≤ 7) (hxm : x < m) (hym : y < m) (hi3 : i < 300) (haM : V.a ≤ 9223372036854775807) (hi1 : IntKind.i64.wrap ((i : Int) + 1) = ((i : Int) + 1)) (hI : OI m cut cs) (HN : NetZ wB w1 g (m : Int) cut cs [.blk g9 58 (acC V), mwI Af cf cs] Z)  (hM : ∀ (a' : Act) (w' : World), Met J a' w' → K' a' w') (hJ : ∀ (a' : Act) (w' : World), MdFr wB g g9 m i x y q c1 c2 c3 c6 c22 c23 c24 c25 c26 c27 c28 c29 c30 c31 c32 c33 c34 c35 c36 c37 c38 c39 c40 a' w' → J a' w') :
    Code.wp Tryd.prog sw2 (Exit.then K' Q') ⟨#[.int .i64 (m : Int), c1, c2, c3, e4, .pointer (some ⟨g, 0, none⟩), c6, .slice Af cs.length cf, .int .i64 (i : Int), .pointer (some ⟨g9, 0, none⟩), .int .i64 (x : Int), .int .i64 (y : Int), e12, e13, e14, e15, e16, e17, e18, e19, e20, e21, c22, c23, c24, c25, c26, c27, c28, c29, c30, c31, c32, c33, c34, c35, c36, c37, c38, c39, c40, e41, e42, e43, e44, e45, e46, e47, e48, e49, e50, e51, e52, e53, e54, e55, e56, e57, e58, e59, e60, e61, e62, e63, e64, e65, e66, .int .u8 (q : Int), e68, e69, e70, e71, e72, e73, e74, e75, e76, e77, e78, e79, e80, e81, e82, e83, e84, e85, e86, e87, e88, e89, e90, e91, e92, e93, e94, e95, e96, e97, e98, e99, e100, e101, e102, e103, e104, e105, e106, e107, e108, e109, e110, e111, e112, e113, e114, e115, e116, e117, e118, e119, e120, e121, e122, e123, e124, e125, e126, e127, e128, e129, e130, e131, e132, e133, e134, e135, e136, e137, e138, e139, e140, e141, e142, e143, e144, e145, e146, e147, e148, e149, e150, e151, e152, e153, e154, e155, e156, e157, e158, e159, e160, e161, e162, e163, e164, e165, e166, e167, e168, e169, e170, e171, e172, e173, e174, e175, e176, e177, e178, e179, e180, e181, e182, e183, e184, e185, e186, e187, e188, e189, e190, e191, e192, e193, e194, e195, e196, e197, e198, e199, e200, e201, e202, e203, e204, e205, e206, e207, e208, e209, e210, e211, e212, e213, e214, e215, e216, e217, e218, e219, e220, e221, e222, e223, e224, e225, e226, e227, e228, e229, e230, e231, e232, e233, e234, e235, e236, e237, e238, e239, e240, e241, e242, e243, e244, e245, e246, e247, e248, e249, e250, e251, e252, e253, e254, e255, e256, e257, e258, e259, e260, e261, e262, e263, e264, e265, e266, e267, e268, e269, e270, e271, e272, e273, e274, e275, e276, e277], []⟩ w1 := by
  have hIx : I64 (x : Int) := ⟨by omega, by omega⟩
  have hIy : I64 (y : Int) := ⟨by omega, by omega⟩
  have hii : 1 ≤ (i : Int) + 1 ∧ (i : Int) + 1 ≤ 1099511627776 := by omega
  have hVa : (acC V)[28]? = some (.int .i64 V.a) := rfl
  have hm0 : ¬ m = 0 := by omega
  conv => arg 2; whnf
  subst hk
  as_aux_lemma =>
    go_wp2_with (first | (fail))
    delta MdFr at hJ
    go_meet
    case rel => exact ⟨cut, cs, Af, cf, _, rfl, hI, HN.drop⟩
end Go.Proofs.YtiieakndjheknaaDoor
