/-
  THE WALKS OF sextonlaw20's has AND awake.
-/
import Derived.Test.YtajgikjmoeemnaaDoorPaE
import Derived.Test.YtajgikjmoeemnaaDoorMsgV
import Derived.Test.YtajgikjmoeemnaaDoorPk4
import Derived.Test.YtajgikjmoeemnaaDoorPk2
import Derived.Test.YtajgikjmoeemnaaDoorPk5
namespace Go.Proofs.YtajgikjmoeemnaaDoor
set_option maxRecDepth 100000
open Go.RowKit
set_option linter.unusedVariables false
set_option linter.unusedSimpArgs false
theorem print_w {m : Mg} {rs : List Rp} {l : List UInt8} {n : Int} {P : List UInt8} {E : Int} (hP : printL m rs l n = P) (hE : printE m rs l n = E) {w : World} (hF : FldW w) (hN : MgN m) (hR : MgR w m rs l) :
    Calls Tryd.prog 12 #[.agg (mgC m).toArray, .int .i64 n] w (RetBC w P E) := by
  subst hP hE
  exact print_any m rs l n w hF hN hR
theorem great_w {m : Mg} {rs : List Rp} {l : List UInt8} {w : World} {b : Bool} (h : grM m rs = b) (hr : MgR w m rs l) : Calls Tryd.prog 9 #[.agg (mgC m).toArray] w (RetV w (.bool b)) := by
  subst h
  exact greatM_any m rs l w hr
/-- Parse finds none -/
theorem parse_no {l : List UInt8} {n : Int} {w : World} (h : paOk l n = false) (A : Option Addr) (c : Nat) {k : Nat} (hk : k = l.length) (hF : FldW w) (hr : Rd w A l) (hc : l.length ≤ c) (hm : c ≤ maxLen) :
    Calls Tryd.prog 17 #[.slice A k c, .int .i64 n] w (RetV w (.tuple #[.agg (mgC mg0).toArray, .int .i64 200])) := by
  subst hk
  refine (parse_any A c l n w hF hr hc hm).mono fun e w' hp => ?_
  unfold RetPM at hp
  rw [if_neg (by rw [h]; decide)] at hp
  exact hp
theorem MgR.nil {w : World} {m : Mg} (h1 : m.rn = 0) (h2 : m.rc = 0) (h3 : m.yn = 0) (h4 : m.yc = 0) : MgR w m [] [] :=
  ⟨h1, fun h => absurd rfl h, fun _ h => (List.not_mem_nil h).elim, by rw [h1]; exact Nat.zero_le _, by rw [h2]; exact Nat.zero_le _, h3, fun h => absurd rfl h, by rw [h3]; exact Nat.zero_le _, by rw [h4]; exact Nat.zero_le _⟩
set_option maxHeartbeats 1000000 in
theorem has_w (m : Mg) (rs : List Rp) (l P : List UInt8) (hP : printL m rs l 3 = P) (hE : printE m rs l 3 = 0) (A : Option Addr) (c : Nat) (w : World) (hF : FldW w) (hN : MgN m) (hR : MgR w m rs l) (hr : Rd w A P) :
    Calls Tryd.prog 47 #[.agg (mgC m).toArray, .slice A P.length c] w (RetV w (.bool true)) := by
  have H := Hp.nil w
  have HP := Lib.hid hP
  have HE := Lib.hid hE
  clear hP hE
  go_enter Tryd.func47, Tryd.ntmps47
  go_wp2_with (first | ((with_reducible refine Hp.box H ?_); (first | refine ⟨rfl, mgC m, rfl, ?_⟩); (clear H; intro gm w1 H); go_frame) | ((with_reducible refine Hp.lda H ?_); refine ⟨rfl, by kernel_rfl, ?_⟩; refine ⟨_, s_look rfl, ?_⟩; refine ⟨_, rfl, ?_⟩; ((repeat ((fail_if_success refine ⟨_, _, _, .z, ?_⟩); refine hs ?_)); refine ⟨_, _, _, .z, ?_⟩); refine ⟨rfl, ?_⟩; go_frame) | ((with_reducible refine Hp.lds H ?_); refine ⟨rfl, by kernel_rfl, ?_⟩; refine ⟨_, s_look rfl, ?_⟩; refine ⟨_, _, rfl, ?_⟩; ((repeat ((fail_if_success refine ⟨_, _, _, .z, ?_⟩); refine hs ?_)); refine ⟨_, _, _, .z, ?_⟩); (first | refine ⟨[_, _], rfl, rfl, ?_⟩ | refine ⟨[_, _, _, _], rfl, rfl, ?_⟩ | refine ⟨[_, _, _, _, _, _, _], rfl, rfl, ?_⟩ | refine ⟨[_, _, _], rfl, rfl, ?_⟩ | (fail)); go_frame) | ((with_reducible refine (print_w HP.out HE.out (hF.below H.below) hN (hR.below H.below)).mono ?_); rintro _ w1 ⟨Ao, co, rfl, hown, hb⟩; replace H := H.callOwn hb hown; clear hb hown) | ((with_reducible refine Hp.cvS H ?_); refine ⟨rfl, _, _, _, rfl, P, (H.o 0 rfl).rd, rfl, ?_⟩; go_frame) | ((with_reducible refine Hp.cvS H ?_); refine ⟨rfl, _, _, _, rfl, P, hr.below H.below, rfl, ?_⟩; go_frame))
  go_ret
  exact ⟨rfl, H.below⟩
theorem has_n {m : Mg} {rs : List Rp} {l P : List UInt8} (hP : printL m rs l 3 = P) (hE : printE m rs l 3 = 0) (A : Option Addr) (c : Nat) {k : Nat} (hk : k = P.length) {w : World} (hF : FldW w) (hN : MgN m) (hR : MgR w m rs l) (hr : Rd w A P) :
    Calls Tryd.prog 47 #[.agg (mgC m).toArray, .slice A k c] w (RetV w (.bool true)) := by
  subst hk
  exact has_w m rs l P hP hE A c w hF hN hR hr
/-! awake -/
def mFe : Mg := { mg0 with k := 10, to := 2, ix := 258 }
def mBa : Mg := { mg0 with k := 9, fr := 1, br := 3, bp := 2, nc := 5 }
def mAs : Mg := { mg0 with k := 1, fr := -2, sq := 4, ok := 1, o0 := ⟨#[107]⟩ }
abbrev pFe : List UInt8 := [10, 0, 2, 2, 1, 0, 0, 0, 0]
abbrev pBa : List UInt8 := [9, 1, 0, 3, 0, 0, 0, 0, 0, 2, 5, 0, 0, 0, 0, 0]
abbrev pAs : List UInt8 := [1, 129, 0, 4, 0, 0, 0, 0, 0, 1, 1, 107, 0, 0]
theorem may_mk {m : Mg} {n : Int} (h1 : kindB m.k = true) (h2 : crowdB n = true) (h3 : endsB m n = true) (h4 : (lets m.k).all (fun c => keepB c.toNat m [] n) = true) (h5 : nrm (bareM m) = nrm m) : mayM m [] [] n = true := by
  have hr : bareR m [] = [] := by unfold bareR; split <;> rfl
  have hy : bareY m [] = [] := by unfold bareY; split <;> rfl
  unfold mayM
  rw [h1, h2, h3, h4, hr, hy, sameM_iff.2 ⟨h5, rfl, rfl⟩]
  rfl
theorem pr_mk {m : Mg} {n : Int} {P : List UInt8} (h : mayM m [] [] n = true) (hp : prL m [] [] = P) : printL m [] [] n = P ∧ printE m [] [] n = 0 := by
  unfold printL printE
  rw [if_pos h, if_pos h]
  exact ⟨hp, rfl⟩
theorem fe_p : printL mFe [] [] 3 = pFe ∧ printE mFe [] [] 3 = 0 := pr_mk (may_mk (by decide +kernel) (by decide +kernel) (by decide +kernel) (by decide +kernel) (by rfl)) (by decide +kernel)
theorem ba_p : printL mBa [] [] 3 = pBa ∧ printE mBa [] [] 3 = 0 := pr_mk (may_mk (by decide +kernel) (by decide +kernel) (by decide +kernel) (by decide +kernel) (by rfl)) (by decide +kernel)
theorem as_p : printL mAs [] [] 3 = pAs ∧ printE mAs [] [] 3 = 0 := pr_mk (may_mk (by decide +kernel) (by decide +kernel) (by decide +kernel) (by decide +kernel) (by rfl)) (by decide +kernel)
def mSa : Mg := { mFe with to := 0 }
def mFa : Mg := { mFe with to := 3 }
def mMo : Mg := { mFe with nc := 1 }
theorem may_ends0 {m : Mg} {n : Int} (h3 : endsB m n = false) : mayM m [] [] n = false := by
  unfold mayM
  rw [h3]
  simp
theorem sa_m : mayM mSa [] [] 3 = false := may_ends0 (by decide +kernel)
theorem fa_m : mayM mFa [] [] 3 = false := may_ends0 (by decide +kernel)
theorem mo_m : mayM mMo [] [] 3 = false := by
  cases e : mayM mMo [] [] 3
  · rfl
  · exact absurd (show (0 : Int) = 1 from congrArg Mg.nc (sameM_iff.1 (may_parts e).2.2.2.2).1) (by decide)
theorem fa_5 : mayM mFa [] [] 5 = true := may_mk (by decide +kernel) (by decide +kernel) (by decide +kernel) (by decide +kernel) (by rfl)
theorem aw_no : paOk [10, 0, 2] 3 = false := by decide +kernel
theorem fe_N : MgN mFe := by unfold MgN I64 Sm U8; decide +kernel
theorem ba_N : MgN mBa := by unfold MgN I64 Sm U8; decide +kernel
theorem as_N : MgN mAs := by unfold MgN I64 Sm U8; decide +kernel
theorem sa_N : MgN mSa := by unfold MgN I64 Sm U8; decide +kernel
theorem fa_N : MgN mFa := by unfold MgN I64 Sm U8; decide +kernel
theorem mo_N : MgN mMo := by unfold MgN I64 Sm U8; decide +kernel
theorem b_fe : Tryd.prog.built 34 [(0, .int .u8 10), (1, .int .i64 0), (2, .int .i64 2), (4, .int .i64 258)] = some (mgC mFe).toArray := by kernel_rfl
theorem b_ba : Tryd.prog.built 34 [(0, .int .u8 9), (1, .int .i64 1), (2, .int .i64 0), (3, .agg (baC 3 2).toArray), (6, .int .i64 5)] = some (mgC mBa).toArray := by kernel_rfl
theorem b_opk : Tryd.prog.built 25 [(0, .int .u8 1), (1, .string ⟨#[107]⟩)] = some (opC 1 ⟨#[107]⟩ .empty .empty).toArray := by kernel_rfl
theorem b_as : Tryd.prog.built 34 [(0, .int .u8 1), (1, .int .i64 (-2)), (2, .int .i64 0), (9, .int .i64 4), (11, .agg (opC 1 ⟨#[107]⟩ .empty .empty).toArray)] = some (mgC mAs).toArray := by kernel_rfl
theorem b_b32 : Tryd.prog.built 23 [(0, .int .i64 3), (1, .int .i64 2)] = some (baC 3 2).toArray := by kernel_rfl
theorem key_of {C : Nat → Nat → Nat → World → Prop} {Pre : Nat → Nat → Nat → World → Prop} {G : Prop} (h2 : (∀ a b c d, Pre a b c d → C a b c d) → G) (h1 : ∀ a b c d, Pre a b c d → C a b c d) : G := h2 h1
theorem n3 : 3 = ([10, 0, 2] : List UInt8).length := rfl
theorem l3 : ([10, 0, 2] : List UInt8).length ≤ 3 := Nat.le_refl _
theorem m3 : 3 ≤ maxLen := by decide
theorem nFe : 9 = pFe.length := rfl
theorem nBa : 16 = pBa.length := rfl
theorem nAs : 14 = pAs.length := rfl
theorem rFe (w : World) : MgR w mFe [] [] := MgR.nil rfl rfl rfl rfl
theorem rBa (w : World) : MgR w mBa [] [] := MgR.nil rfl rfl rfl rfl
theorem rAs (w : World) : MgR w mAs [] [] := MgR.nil rfl rfl rfl rfl
theorem rSa (w : World) : MgR w mSa [] [] := MgR.nil rfl rfl rfl rfl
theorem rFa (w : World) : MgR w mFa [] [] := MgR.nil rfl rfl rfl rfl
theorem rMo (w : World) : MgR w mMo [] [] := MgR.nil rfl rfl rfl rfl
set_option maxRecDepth 100000 in
set_option maxHeartbeats 4000000 in
theorem awake_any (w : World) (hF : FldW w) : Calls Tryd.prog 19 #[] w (RetV w (.bool true)) := by
  have H := Hp.nil w
  go_enter Tryd.func19, Tryd.ntmps19
  go_wp2_with (first | ((with_reducible refine Hp.allo (ty := 34) H ?_); refine ⟨rfl, ?_⟩; refine ⟨_, z_look rfl, ?_⟩; (clear H; intro gr w1 H); go_frame) | ((with_reducible refine Hp.lda H ?_); refine ⟨rfl, by kernel_rfl, ?_⟩; refine ⟨_, s_look rfl, ?_⟩; refine ⟨_, rfl, ?_⟩; (first | refine ⟨_, _, _, .z, ?_⟩ | refine ⟨_, _, _, .s .z, ?_⟩ | refine ⟨_, _, _, .s (.s .z), ?_⟩ | refine ⟨_, _, _, .s (.s (.s .z)), ?_⟩ | refine ⟨_, _, _, .s (.s (.s (.s .z))), ?_⟩ | refine ⟨_, _, _, .s (.s (.s (.s (.s .z)))), ?_⟩ | refine ⟨_, _, _, .s (.s (.s (.s (.s (.s .z))))), ?_⟩ | refine ⟨_, _, _, .s (.s (.s (.s (.s (.s (.s .z)))))), ?_⟩); refine ⟨rfl, ?_⟩; go_frame) | ((with_reducible refine Hp.lds H ?_); refine ⟨rfl, by kernel_rfl, ?_⟩; refine ⟨_, s_look rfl, ?_⟩; refine ⟨_, _, rfl, ?_⟩; (first | refine ⟨_, _, _, .z, ?_⟩ | refine ⟨_, _, _, .s .z, ?_⟩ | refine ⟨_, _, _, .s (.s .z), ?_⟩ | refine ⟨_, _, _, .s (.s (.s .z)), ?_⟩ | refine ⟨_, _, _, .s (.s (.s (.s .z))), ?_⟩ | refine ⟨_, _, _, .s (.s (.s (.s (.s .z)))), ?_⟩ | refine ⟨_, _, _, .s (.s (.s (.s (.s (.s .z))))), ?_⟩ | refine ⟨_, _, _, .s (.s (.s (.s (.s (.s (.s .z)))))), ?_⟩); (first | refine ⟨[_, _], rfl, rfl, ?_⟩ | refine ⟨[_, _, _, _], rfl, rfl, ?_⟩ | refine ⟨[_, _, _, _, _, _, _], rfl, rfl, ?_⟩ | refine ⟨[_, _, _], rfl, rfl, ?_⟩ | (fail)); go_frame) | ((with_reducible refine Hp.stv H ?_); refine ⟨rfl, ?_⟩; refine ⟨c_look rfl, ?_⟩; (first | refine ⟨.bool _, rfl, ?_⟩ | refine ⟨.int _ _, rfl, ?_⟩ | refine ⟨.string _, rfl, ?_⟩ | refine ⟨.slice _ _ _, rfl, ?_⟩ | refine ⟨.pointer _, rfl, ?_⟩); refine ⟨rfl, _, _, rfl, ?_⟩; (first | refine ⟨_, _, _, .z, ?_⟩ | refine ⟨_, _, _, .s .z, ?_⟩ | refine ⟨_, _, _, .s (.s .z), ?_⟩ | refine ⟨_, _, _, .s (.s (.s .z)), ?_⟩ | refine ⟨_, _, _, .s (.s (.s (.s .z))), ?_⟩ | refine ⟨_, _, _, .s (.s (.s (.s (.s .z)))), ?_⟩ | refine ⟨_, _, _, .s (.s (.s (.s (.s (.s .z))))), ?_⟩ | refine ⟨_, _, _, .s (.s (.s (.s (.s (.s (.s .z)))))), ?_⟩); refine ⟨⟨_, rfl⟩, ?_⟩; (clear H; intro w1 H; simp only [List.set] at H); go_frame) | ((with_reducible refine Hp.sta H ?_); refine ⟨rfl, ?_⟩; refine ⟨_, s_look rfl, ?_⟩; refine ⟨_, rfl, _, rfl, rfl, ?_⟩; (first | refine ⟨_, _, _, .z, ?_⟩ | refine ⟨_, _, _, .s .z, ?_⟩ | refine ⟨_, _, _, .s (.s .z), ?_⟩ | refine ⟨_, _, _, .s (.s (.s .z)), ?_⟩ | refine ⟨_, _, _, .s (.s (.s (.s .z))), ?_⟩ | refine ⟨_, _, _, .s (.s (.s (.s (.s .z)))), ?_⟩ | refine ⟨_, _, _, .s (.s (.s (.s (.s (.s .z))))), ?_⟩ | refine ⟨_, _, _, .s (.s (.s (.s (.s (.s (.s .z)))))), ?_⟩); refine ⟨rfl, rfl, ?_⟩; (clear H; intro w1 H; simp only [List.set] at H); go_frame) | ((with_reducible refine Hp.str H ?_); refine ⟨rfl, ?_⟩; refine ⟨_, s_look rfl, ?_⟩; refine ⟨_, _, rfl, _, rfl, rfl, ?_⟩; (first | refine ⟨_, _, _, .z, ?_⟩ | refine ⟨_, _, _, .s .z, ?_⟩ | refine ⟨_, _, _, .s (.s .z), ?_⟩ | refine ⟨_, _, _, .s (.s (.s .z)), ?_⟩ | refine ⟨_, _, _, .s (.s (.s (.s .z))), ?_⟩ | refine ⟨_, _, _, .s (.s (.s (.s (.s .z)))), ?_⟩ | refine ⟨_, _, _, .s (.s (.s (.s (.s (.s .z))))), ?_⟩ | refine ⟨_, _, _, .s (.s (.s (.s (.s (.s (.s .z)))))), ?_⟩); refine ⟨rfl, _, rfl, _, rfl, Nat.le_of_ble_eq_true rfl, ?_⟩; (clear H; intro w1 H; simp only [List.set] at H); go_frame) | ((with_reducible refine Hp.bdl (t := 34) (parts := [(0, _), (1, _), (2, _), (4, _)]) H ?_); refine ⟨rfl, mgC mFe, b_fe, ?_⟩; go_frame) | ((with_reducible refine Hp.bdl (t := 23) (parts := [_, _]) H ?_); refine ⟨rfl, baC 3 2, b_b32, ?_⟩; go_frame) | ((with_reducible refine Hp.bdl (t := 25) (parts := [_, _]) H ?_); refine ⟨rfl, opC 1 ⟨#[107]⟩ .empty .empty, b_opk, ?_⟩; go_frame) | ((with_reducible refine Hp.bdl (t := 34) (parts := [(0, _), (1, _), (2, _), (3, _), (6, _)]) H ?_); refine ⟨rfl, mgC mBa, b_ba, ?_⟩; go_frame) | ((with_reducible refine Hp.bdl (t := 34) (parts := [(0, _), (1, _), (2, _), (9, _), (11, _)]) H ?_); refine ⟨rfl, mgC mAs, b_as, ?_⟩; go_frame) | (fail))
  apply key_of
  case h2 =>
    intro key
    refine hw_start [] (_ :: _ :: _ :: []) H (by kernel_rfl) (fun w1 H => ?_)
    have hS : HpW _ _ w1 := ⟨[], H⟩
    simp only [List.nil_append] at H
    (refine hw_take hS 0 (by decide +kernel) (by decide +kernel) (by decide +kernel) ⟨_, rfl, rfl, _, fun w h => ex_load rfl rfl (hw_lda (by kernel_rfl) s_Msg (.s (.s .z)) rfl w h), fun _ _ _ h => h, ?_⟩; go_frame)
    (refine hw_take hS 1 (by decide +kernel) (by decide +kernel) (by decide +kernel) ⟨_, rfl, rfl, _, fun w h => ex_load rfl rfl (hw_lda (by kernel_rfl) s_Msg (.s (.s .z)) rfl w h), fun _ _ _ h => h, ?_⟩; go_frame)
    (refine hw_take hS 2 (by decide +kernel) (by decide +kernel) (by decide +kernel) ⟨_, rfl, rfl, _, fun w h => ex_load rfl rfl (hw_lda (by kernel_rfl) s_Msg (.s (.s .z)) rfl w h), fun _ _ _ h => h, ?_⟩; go_frame)
    clear hS
    refine hw_three 3 4 5 (by decide +kernel) ⟨_, rfl, rfl, fun K hK => ?_⟩ ⟨_, rfl, rfl, fun K hK => ?_⟩ ⟨_, rfl, rfl, fun K hK => ?_⟩
    · (refine hw_alloc (ty := 34) rfl (z_look rfl) H (fun g4 w1 H => ?_); refine hK _ _ ⟨[_], H⟩ ?_; clear hK K; go_frame; have hS : HpW _ _ _ := ⟨[_], H⟩)
      clear hS
      refine hw_two 4 5 (by decide +kernel) ⟨_, rfl, rfl, fun K hK => ?_⟩ ⟨_, rfl, rfl, fun K hK => ?_⟩
      · (refine hw_alloc (ty := 34) rfl (z_look rfl) H (fun g5 w1 H => ?_); refine hK _ _ ⟨[_, _], H⟩ ?_; clear hK K; go_frame; have hS : HpW _ _ _ := ⟨[_, _], H⟩)
        clear hS
        (refine hw_one 5 (by decide +kernel) ⟨_, rfl, rfl, fun K hK => ?_⟩)
        (refine hw_alloc (ty := 34) rfl (z_look rfl) H (fun g6 w1 H => ?_); refine hK _ _ ⟨[_, _, _], H⟩ ?_; clear hK K; go_frame; have hS : HpW _ _ _ := ⟨[_, _, _], H⟩)
        have H := H.pick (L' := [_, _, _, _, _, _]) [2, 1, 0, 3, 4, 5] (by decide) rfl
        clear hS
        ((refine hw_one 6 (by decide +kernel) ⟨_, rfl, rfl, fun K hK => ?_⟩); refine hw_sta (vs := mgC mFe) rfl rfl rfl H s_Msg .z rfl rfl rfl (fun w1 H => hK _ _ ⟨[_, _, _], H⟩ ?_); clear hK K; go_frame; simp only [List.set_cons_zero, List.set_cons_succ] at H; have hS : HpW _ _ w1 := ⟨[_, _, _], H⟩)
        clear hS
        ((refine hw_one 7 (by decide +kernel) ⟨_, rfl, rfl, fun K hK => ?_⟩); refine hw_sta (vs := mgC mFe) rfl rfl rfl H s_Msg (.s .z) rfl rfl rfl (fun w1 H => hK _ _ ⟨[_, _, _], H⟩ ?_); clear hK K; go_frame; simp only [List.set_cons_zero, List.set_cons_succ] at H; have hS : HpW _ _ w1 := ⟨[_, _, _], H⟩)
        clear hS
        ((refine hw_one 8 (by decide +kernel) ⟨_, rfl, rfl, fun K hK => ?_⟩); refine hw_sta (vs := mgC mFe) rfl rfl rfl H s_Msg (.s (.s .z)) rfl rfl rfl (fun w1 H => hK _ _ ⟨[_, _, _], H⟩ ?_); clear hK K; go_frame; simp only [List.set_cons_zero, List.set_cons_succ] at H; have hS : HpW _ _ w1 := ⟨[_, _, _], H⟩)
        refine wpAnyH_done (by kernel_rfl) ?_ _
        exact key g4 g5 g6 _ H
      · (refine hw_alloc (ty := 34) rfl (z_look rfl) H (fun g6 w1 H => ?_); refine hK _ _ ⟨[_, _], H⟩ ?_; clear hK K; go_frame; have hS : HpW _ _ _ := ⟨[_, _], H⟩)
        clear hS
        (refine hw_one 4 (by decide +kernel) ⟨_, rfl, rfl, fun K hK => ?_⟩)
        (refine hw_alloc (ty := 34) rfl (z_look rfl) H (fun g5 w1 H => ?_); refine hK _ _ ⟨[_, _, _], H⟩ ?_; clear hK K; go_frame; have hS : HpW _ _ _ := ⟨[_, _, _], H⟩)
        have H := H.pick (L' := [_, _, _, _, _, _]) [2, 0, 1, 3, 4, 5] (by decide) rfl
        clear hS
        ((refine hw_one 6 (by decide +kernel) ⟨_, rfl, rfl, fun K hK => ?_⟩); refine hw_sta (vs := mgC mFe) rfl rfl rfl H s_Msg .z rfl rfl rfl (fun w1 H => hK _ _ ⟨[_, _, _], H⟩ ?_); clear hK K; go_frame; simp only [List.set_cons_zero, List.set_cons_succ] at H; have hS : HpW _ _ w1 := ⟨[_, _, _], H⟩)
        clear hS
        ((refine hw_one 7 (by decide +kernel) ⟨_, rfl, rfl, fun K hK => ?_⟩); refine hw_sta (vs := mgC mFe) rfl rfl rfl H s_Msg (.s .z) rfl rfl rfl (fun w1 H => hK _ _ ⟨[_, _, _], H⟩ ?_); clear hK K; go_frame; simp only [List.set_cons_zero, List.set_cons_succ] at H; have hS : HpW _ _ w1 := ⟨[_, _, _], H⟩)
        clear hS
        ((refine hw_one 8 (by decide +kernel) ⟨_, rfl, rfl, fun K hK => ?_⟩); refine hw_sta (vs := mgC mFe) rfl rfl rfl H s_Msg (.s (.s .z)) rfl rfl rfl (fun w1 H => hK _ _ ⟨[_, _, _], H⟩ ?_); clear hK K; go_frame; simp only [List.set_cons_zero, List.set_cons_succ] at H; have hS : HpW _ _ w1 := ⟨[_, _, _], H⟩)
        refine wpAnyH_done (by kernel_rfl) ?_ _
        exact key g4 g5 g6 _ H
    · (refine hw_alloc (ty := 34) rfl (z_look rfl) H (fun g5 w1 H => ?_); refine hK _ _ ⟨[_], H⟩ ?_; clear hK K; go_frame; have hS : HpW _ _ _ := ⟨[_], H⟩)
      clear hS
      refine hw_two 3 5 (by decide +kernel) ⟨_, rfl, rfl, fun K hK => ?_⟩ ⟨_, rfl, rfl, fun K hK => ?_⟩
      · (refine hw_alloc (ty := 34) rfl (z_look rfl) H (fun g4 w1 H => ?_); refine hK _ _ ⟨[_, _], H⟩ ?_; clear hK K; go_frame; have hS : HpW _ _ _ := ⟨[_, _], H⟩)
        clear hS
        (refine hw_one 5 (by decide +kernel) ⟨_, rfl, rfl, fun K hK => ?_⟩)
        (refine hw_alloc (ty := 34) rfl (z_look rfl) H (fun g6 w1 H => ?_); refine hK _ _ ⟨[_, _, _], H⟩ ?_; clear hK K; go_frame; have hS : HpW _ _ _ := ⟨[_, _, _], H⟩)
        have H := H.pick (L' := [_, _, _, _, _, _]) [1, 2, 0, 3, 4, 5] (by decide) rfl
        clear hS
        ((refine hw_one 6 (by decide +kernel) ⟨_, rfl, rfl, fun K hK => ?_⟩); refine hw_sta (vs := mgC mFe) rfl rfl rfl H s_Msg .z rfl rfl rfl (fun w1 H => hK _ _ ⟨[_, _, _], H⟩ ?_); clear hK K; go_frame; simp only [List.set_cons_zero, List.set_cons_succ] at H; have hS : HpW _ _ w1 := ⟨[_, _, _], H⟩)
        clear hS
        ((refine hw_one 7 (by decide +kernel) ⟨_, rfl, rfl, fun K hK => ?_⟩); refine hw_sta (vs := mgC mFe) rfl rfl rfl H s_Msg (.s .z) rfl rfl rfl (fun w1 H => hK _ _ ⟨[_, _, _], H⟩ ?_); clear hK K; go_frame; simp only [List.set_cons_zero, List.set_cons_succ] at H; have hS : HpW _ _ w1 := ⟨[_, _, _], H⟩)
        clear hS
        ((refine hw_one 8 (by decide +kernel) ⟨_, rfl, rfl, fun K hK => ?_⟩); refine hw_sta (vs := mgC mFe) rfl rfl rfl H s_Msg (.s (.s .z)) rfl rfl rfl (fun w1 H => hK _ _ ⟨[_, _, _], H⟩ ?_); clear hK K; go_frame; simp only [List.set_cons_zero, List.set_cons_succ] at H; have hS : HpW _ _ w1 := ⟨[_, _, _], H⟩)
        refine wpAnyH_done (by kernel_rfl) ?_ _
        exact key g4 g5 g6 _ H
      · (refine hw_alloc (ty := 34) rfl (z_look rfl) H (fun g6 w1 H => ?_); refine hK _ _ ⟨[_, _], H⟩ ?_; clear hK K; go_frame; have hS : HpW _ _ _ := ⟨[_, _], H⟩)
        clear hS
        (refine hw_one 3 (by decide +kernel) ⟨_, rfl, rfl, fun K hK => ?_⟩)
        (refine hw_alloc (ty := 34) rfl (z_look rfl) H (fun g4 w1 H => ?_); refine hK _ _ ⟨[_, _, _], H⟩ ?_; clear hK K; go_frame; have hS : HpW _ _ _ := ⟨[_, _, _], H⟩)
        have H := H.pick (L' := [_, _, _, _, _, _]) [0, 2, 1, 3, 4, 5] (by decide) rfl
        clear hS
        ((refine hw_one 6 (by decide +kernel) ⟨_, rfl, rfl, fun K hK => ?_⟩); refine hw_sta (vs := mgC mFe) rfl rfl rfl H s_Msg .z rfl rfl rfl (fun w1 H => hK _ _ ⟨[_, _, _], H⟩ ?_); clear hK K; go_frame; simp only [List.set_cons_zero, List.set_cons_succ] at H; have hS : HpW _ _ w1 := ⟨[_, _, _], H⟩)
        clear hS
        ((refine hw_one 7 (by decide +kernel) ⟨_, rfl, rfl, fun K hK => ?_⟩); refine hw_sta (vs := mgC mFe) rfl rfl rfl H s_Msg (.s .z) rfl rfl rfl (fun w1 H => hK _ _ ⟨[_, _, _], H⟩ ?_); clear hK K; go_frame; simp only [List.set_cons_zero, List.set_cons_succ] at H; have hS : HpW _ _ w1 := ⟨[_, _, _], H⟩)
        clear hS
        ((refine hw_one 8 (by decide +kernel) ⟨_, rfl, rfl, fun K hK => ?_⟩); refine hw_sta (vs := mgC mFe) rfl rfl rfl H s_Msg (.s (.s .z)) rfl rfl rfl (fun w1 H => hK _ _ ⟨[_, _, _], H⟩ ?_); clear hK K; go_frame; simp only [List.set_cons_zero, List.set_cons_succ] at H; have hS : HpW _ _ w1 := ⟨[_, _, _], H⟩)
        refine wpAnyH_done (by kernel_rfl) ?_ _
        exact key g4 g5 g6 _ H
    · (refine hw_alloc (ty := 34) rfl (z_look rfl) H (fun g6 w1 H => ?_); refine hK _ _ ⟨[_], H⟩ ?_; clear hK K; go_frame; have hS : HpW _ _ _ := ⟨[_], H⟩)
      clear hS
      refine hw_two 3 4 (by decide +kernel) ⟨_, rfl, rfl, fun K hK => ?_⟩ ⟨_, rfl, rfl, fun K hK => ?_⟩
      · (refine hw_alloc (ty := 34) rfl (z_look rfl) H (fun g4 w1 H => ?_); refine hK _ _ ⟨[_, _], H⟩ ?_; clear hK K; go_frame; have hS : HpW _ _ _ := ⟨[_, _], H⟩)
        clear hS
        (refine hw_one 4 (by decide +kernel) ⟨_, rfl, rfl, fun K hK => ?_⟩)
        (refine hw_alloc (ty := 34) rfl (z_look rfl) H (fun g5 w1 H => ?_); refine hK _ _ ⟨[_, _, _], H⟩ ?_; clear hK K; go_frame; have hS : HpW _ _ _ := ⟨[_, _, _], H⟩)
        have H := H.pick (L' := [_, _, _, _, _, _]) [1, 0, 2, 3, 4, 5] (by decide) rfl
        clear hS
        ((refine hw_one 6 (by decide +kernel) ⟨_, rfl, rfl, fun K hK => ?_⟩); refine hw_sta (vs := mgC mFe) rfl rfl rfl H s_Msg .z rfl rfl rfl (fun w1 H => hK _ _ ⟨[_, _, _], H⟩ ?_); clear hK K; go_frame; simp only [List.set_cons_zero, List.set_cons_succ] at H; have hS : HpW _ _ w1 := ⟨[_, _, _], H⟩)
        clear hS
        ((refine hw_one 7 (by decide +kernel) ⟨_, rfl, rfl, fun K hK => ?_⟩); refine hw_sta (vs := mgC mFe) rfl rfl rfl H s_Msg (.s .z) rfl rfl rfl (fun w1 H => hK _ _ ⟨[_, _, _], H⟩ ?_); clear hK K; go_frame; simp only [List.set_cons_zero, List.set_cons_succ] at H; have hS : HpW _ _ w1 := ⟨[_, _, _], H⟩)
        clear hS
        ((refine hw_one 8 (by decide +kernel) ⟨_, rfl, rfl, fun K hK => ?_⟩); refine hw_sta (vs := mgC mFe) rfl rfl rfl H s_Msg (.s (.s .z)) rfl rfl rfl (fun w1 H => hK _ _ ⟨[_, _, _], H⟩ ?_); clear hK K; go_frame; simp only [List.set_cons_zero, List.set_cons_succ] at H; have hS : HpW _ _ w1 := ⟨[_, _, _], H⟩)
        refine wpAnyH_done (by kernel_rfl) ?_ _
        exact key g4 g5 g6 _ H
      · (refine hw_alloc (ty := 34) rfl (z_look rfl) H (fun g5 w1 H => ?_); refine hK _ _ ⟨[_, _], H⟩ ?_; clear hK K; go_frame; have hS : HpW _ _ _ := ⟨[_, _], H⟩)
        clear hS
        (refine hw_one 3 (by decide +kernel) ⟨_, rfl, rfl, fun K hK => ?_⟩)
        (refine hw_alloc (ty := 34) rfl (z_look rfl) H (fun g4 w1 H => ?_); refine hK _ _ ⟨[_, _, _], H⟩ ?_; clear hK K; go_frame; have hS : HpW _ _ _ := ⟨[_, _, _], H⟩)
        have H := H.pick (L' := [_, _, _, _, _, _]) [0, 1, 2, 3, 4, 5] (by decide) rfl
        clear hS
        ((refine hw_one 6 (by decide +kernel) ⟨_, rfl, rfl, fun K hK => ?_⟩); refine hw_sta (vs := mgC mFe) rfl rfl rfl H s_Msg .z rfl rfl rfl (fun w1 H => hK _ _ ⟨[_, _, _], H⟩ ?_); clear hK K; go_frame; simp only [List.set_cons_zero, List.set_cons_succ] at H; have hS : HpW _ _ w1 := ⟨[_, _, _], H⟩)
        clear hS
        ((refine hw_one 7 (by decide +kernel) ⟨_, rfl, rfl, fun K hK => ?_⟩); refine hw_sta (vs := mgC mFe) rfl rfl rfl H s_Msg (.s .z) rfl rfl rfl (fun w1 H => hK _ _ ⟨[_, _, _], H⟩ ?_); clear hK K; go_frame; simp only [List.set_cons_zero, List.set_cons_succ] at H; have hS : HpW _ _ w1 := ⟨[_, _, _], H⟩)
        clear hS
        ((refine hw_one 8 (by decide +kernel) ⟨_, rfl, rfl, fun K hK => ?_⟩); refine hw_sta (vs := mgC mFe) rfl rfl rfl H s_Msg (.s (.s .z)) rfl rfl rfl (fun w1 H => hK _ _ ⟨[_, _, _], H⟩ ?_); clear hK K; go_frame; simp only [List.set_cons_zero, List.set_cons_succ] at H; have hS : HpW _ _ w1 := ⟨[_, _, _], H⟩)
        refine wpAnyH_done (by kernel_rfl) ?_ _
        exact key g4 g5 g6 _ H
  case h1 =>
    intro g4 g5 g6 w1 H
    go_wp2_with (first | ((with_reducible refine Hp.allo (ty := 34) H ?_); refine ⟨rfl, ?_⟩; refine ⟨_, z_look rfl, ?_⟩; (clear H; intro gr w1 H); go_frame) | ((with_reducible refine Hp.lda H ?_); refine ⟨rfl, by kernel_rfl, ?_⟩; refine ⟨_, s_look rfl, ?_⟩; refine ⟨_, rfl, ?_⟩; (first | refine ⟨_, _, _, .z, ?_⟩ | refine ⟨_, _, _, .s .z, ?_⟩ | refine ⟨_, _, _, .s (.s .z), ?_⟩ | refine ⟨_, _, _, .s (.s (.s .z)), ?_⟩ | refine ⟨_, _, _, .s (.s (.s (.s .z))), ?_⟩ | refine ⟨_, _, _, .s (.s (.s (.s (.s .z)))), ?_⟩ | refine ⟨_, _, _, .s (.s (.s (.s (.s (.s .z))))), ?_⟩ | refine ⟨_, _, _, .s (.s (.s (.s (.s (.s (.s .z)))))), ?_⟩); refine ⟨rfl, ?_⟩; go_frame) | ((with_reducible refine Hp.lds H ?_); refine ⟨rfl, by kernel_rfl, ?_⟩; refine ⟨_, s_look rfl, ?_⟩; refine ⟨_, _, rfl, ?_⟩; (first | refine ⟨_, _, _, .z, ?_⟩ | refine ⟨_, _, _, .s .z, ?_⟩ | refine ⟨_, _, _, .s (.s .z), ?_⟩ | refine ⟨_, _, _, .s (.s (.s .z)), ?_⟩ | refine ⟨_, _, _, .s (.s (.s (.s .z))), ?_⟩ | refine ⟨_, _, _, .s (.s (.s (.s (.s .z)))), ?_⟩ | refine ⟨_, _, _, .s (.s (.s (.s (.s (.s .z))))), ?_⟩ | refine ⟨_, _, _, .s (.s (.s (.s (.s (.s (.s .z)))))), ?_⟩); (first | refine ⟨[_, _], rfl, rfl, ?_⟩ | refine ⟨[_, _, _, _], rfl, rfl, ?_⟩ | refine ⟨[_, _, _, _, _, _, _], rfl, rfl, ?_⟩ | refine ⟨[_, _, _], rfl, rfl, ?_⟩ | (fail)); go_frame) | (((with_reducible refine Hp.stv H ?_); refine ⟨rfl, ?_⟩; refine ⟨c_look rfl, ?_⟩; (first | refine ⟨.bool _, rfl, ?_⟩ | refine ⟨.int _ _, rfl, ?_⟩ | refine ⟨.string _, rfl, ?_⟩ | refine ⟨.slice _ _ _, rfl, ?_⟩ | refine ⟨.pointer _, rfl, ?_⟩); refine ⟨rfl, _, _, rfl, ?_⟩; (first | refine ⟨_, _, _, .z, ?_⟩ | refine ⟨_, _, _, .s .z, ?_⟩ | refine ⟨_, _, _, .s (.s .z), ?_⟩ | refine ⟨_, _, _, .s (.s (.s .z)), ?_⟩ | refine ⟨_, _, _, .s (.s (.s (.s .z))), ?_⟩ | refine ⟨_, _, _, .s (.s (.s (.s (.s .z)))), ?_⟩ | refine ⟨_, _, _, .s (.s (.s (.s (.s (.s .z))))), ?_⟩ | refine ⟨_, _, _, .s (.s (.s (.s (.s (.s (.s .z)))))), ?_⟩); refine ⟨⟨_, rfl⟩, ?_⟩; (clear H; intro w1 H; simp only [List.set] at H); go_frame); try (replace H : Hp w w1 (.blk g4 34 (mgC mSa) :: .blk g5 34 (mgC mFa) :: .blk g6 34 (mgC mMo) :: _) := H)) | ((with_reducible refine Hp.sta H ?_); refine ⟨rfl, ?_⟩; refine ⟨_, s_look rfl, ?_⟩; refine ⟨_, rfl, _, rfl, rfl, ?_⟩; (first | refine ⟨_, _, _, .z, ?_⟩ | refine ⟨_, _, _, .s .z, ?_⟩ | refine ⟨_, _, _, .s (.s .z), ?_⟩ | refine ⟨_, _, _, .s (.s (.s .z)), ?_⟩ | refine ⟨_, _, _, .s (.s (.s (.s .z))), ?_⟩ | refine ⟨_, _, _, .s (.s (.s (.s (.s .z)))), ?_⟩ | refine ⟨_, _, _, .s (.s (.s (.s (.s (.s .z))))), ?_⟩ | refine ⟨_, _, _, .s (.s (.s (.s (.s (.s (.s .z)))))), ?_⟩); refine ⟨rfl, rfl, ?_⟩; (clear H; intro w1 H; simp only [List.set] at H); go_frame) | ((with_reducible refine Hp.str H ?_); refine ⟨rfl, ?_⟩; refine ⟨_, s_look rfl, ?_⟩; refine ⟨_, _, rfl, _, rfl, rfl, ?_⟩; (first | refine ⟨_, _, _, .z, ?_⟩ | refine ⟨_, _, _, .s .z, ?_⟩ | refine ⟨_, _, _, .s (.s .z), ?_⟩ | refine ⟨_, _, _, .s (.s (.s .z)), ?_⟩ | refine ⟨_, _, _, .s (.s (.s (.s .z))), ?_⟩ | refine ⟨_, _, _, .s (.s (.s (.s (.s .z)))), ?_⟩ | refine ⟨_, _, _, .s (.s (.s (.s (.s (.s .z))))), ?_⟩ | refine ⟨_, _, _, .s (.s (.s (.s (.s (.s (.s .z)))))), ?_⟩); refine ⟨rfl, _, rfl, _, rfl, Nat.le_of_ble_eq_true rfl, ?_⟩; (clear H; intro w1 H; simp only [List.set] at H); go_frame) | ((with_reducible refine Hp.bdl (t := 34) (parts := [(0, _), (1, _), (2, _), (4, _)]) H ?_); refine ⟨rfl, mgC mFe, b_fe, ?_⟩; go_frame) | ((with_reducible refine Hp.bdl (t := 23) (parts := [_, _]) H ?_); refine ⟨rfl, baC 3 2, b_b32, ?_⟩; go_frame) | ((with_reducible refine Hp.bdl (t := 25) (parts := [_, _]) H ?_); refine ⟨rfl, opC 1 ⟨#[107]⟩ .empty .empty, b_opk, ?_⟩; go_frame) | ((with_reducible refine Hp.bdl (t := 34) (parts := [(0, _), (1, _), (2, _), (3, _), (6, _)]) H ?_); refine ⟨rfl, mgC mBa, b_ba, ?_⟩; go_frame) | ((with_reducible refine Hp.bdl (t := 34) (parts := [(0, _), (1, _), (2, _), (9, _), (11, _)]) H ?_); refine ⟨rfl, mgC mAs, b_as, ?_⟩; go_frame) | ((with_reducible refine Hp.bslB (parts := [_, _, _]) H ?_); refine ⟨rfl, rfl, rfl, bvs [10, 0, 2], rfl, [10, 0, 2], rfl, rfl, ?_⟩; (clear H; intro g1 w1 H); go_frame) | ((with_reducible refine Hp.bslB (parts := [_, _, _, _, _, _, _, _, _]) H ?_); refine ⟨rfl, rfl, rfl, bvs pFe, rfl, pFe, rfl, rfl, ?_⟩; (clear H; intro g1 w1 H); go_frame) | ((with_reducible refine Hp.bslB (parts := [_, _, _, _, _, _, _, _, _, _, _, _, _, _, _, _]) H ?_); refine ⟨rfl, rfl, rfl, bvs pBa, rfl, pBa, rfl, rfl, ?_⟩; (clear H; intro g1 w1 H); go_frame) | ((with_reducible refine Hp.bslB (parts := [_, _, _, _, _, _, _, _, _, _, _, _, _, _]) H ?_); refine ⟨rfl, rfl, rfl, bvs pAs, rfl, pAs, rfl, rfl, ?_⟩; (clear H; intro g1 w1 H); go_frame) | ((with_reducible refine (parse_no aw_no _ _ n3 (hF.below H.below) (H.o 0 rfl).rd l3 m3).mono ?_); rintro _ w1 ⟨rfl, hb⟩; replace H := H.call hb; clear hb) | ((with_reducible refine (has_n fe_p.1 fe_p.2 _ _ nFe (hF.below H.below) fe_N (rFe _) (H.o 0 rfl).rd).mono ?_); rintro _ w1 ⟨rfl, hb⟩; replace H := H.call hb; clear hb) | ((with_reducible refine (has_n ba_p.1 ba_p.2 _ _ nBa (hF.below H.below) ba_N (rBa _) (H.o 0 rfl).rd).mono ?_); rintro _ w1 ⟨rfl, hb⟩; replace H := H.call hb; clear hb) | ((with_reducible refine (has_n as_p.1 as_p.2 _ _ nAs (hF.below H.below) as_N (rAs _) (H.o 0 rfl).rd).mono ?_); rintro _ w1 ⟨rfl, hb⟩; replace H := H.call hb; clear hb) | ((with_reducible refine (may_v sa_m (hF.below H.below) sa_N (rSa _)).mono ?_); rintro _ w1 ⟨rfl, hb⟩; replace H := H.call hb; clear hb) | ((with_reducible refine (may_v fa_m (hF.below H.below) fa_N (rFa _)).mono ?_); rintro _ w1 ⟨rfl, hb⟩; replace H := H.call hb; clear hb) | ((with_reducible refine (may_v mo_m (hF.below H.below) mo_N (rMo _)).mono ?_); rintro _ w1 ⟨rfl, hb⟩; replace H := H.call hb; clear hb) | ((with_reducible refine (may_v fa_5 (hF.below H.below) fa_N (rFa _)).mono ?_); rintro _ w1 ⟨rfl, hb⟩; replace H := H.call hb; clear hb))
    go_ret
    exact ⟨rfl, H.below⟩
end Go.Proofs.YtajgikjmoeemnaaDoor
