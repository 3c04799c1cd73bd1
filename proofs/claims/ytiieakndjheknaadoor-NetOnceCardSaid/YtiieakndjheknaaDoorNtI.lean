/-
  THE WALK OF sextonlaw28's awake.
-/
import Derived.Test.YtiieakndjheknaaDoorNtG
namespace Go.Proofs.YtiieakndjheknaaDoor
set_option maxRecDepth 100000
open Go.RowKit
set_option linter.unusedVariables false
set_option linter.unusedSimpArgs false
theorem NetZ.new {w0 w : World} {g : Nat} {n : Int} (H : Hp w0 w [netI g n none 0 0 cut0]) : NetZ w0 w g n cut0 [] [] [] := ⟨none, 0, [], rfl, Held.nil _, by decide, by decide, (H.nilRow 34 27).rot2⟩
theorem NetZ.W {w0 w : World} {g : Nat} {n : Int} {cut : List Bool} {cs : List MX} {B : Item} {F Z : List Item} (h : NetZ w0 w g n cut cs (B :: F) Z) : HpW w0 [B] w := by
  obtain ⟨A, c, fl, h1, h2, h3, h4, H⟩ := h
  exact ⟨netI g n A fl.length c cut :: mwI A c fl :: (F ++ Z), H.perm (List.Perm.cons _ (List.Perm.cons _ (List.perm_append_comm (l₁ := [B]) (l₂ := F ++ Z))))⟩
theorem NetZ.W2 {w0 w : World} {g : Nat} {n : Int} {cut : List Bool} {cs : List MX} {B C : Item} {F Z : List Item} (h : NetZ w0 w g n cut cs (C :: B :: F) Z) : HpW w0 [B] w := h.drop.W
theorem NetZ.R {w0 w : World} {g : Nat} {n : Int} {cut : List Bool} {cs fl : List MX} {x : MX} {F Z : List Item} (h : NetZ w0 w g n cut cs F Z) (hh : Held Z fl) (hx : x ∈ fl) : MgR w x.m x.rs x.l := by
  obtain ⟨A, c, fl, h1, h2, h3, h4, H⟩ := h
  exact hh.R hx H (sub_F F Z)
theorem NetZ.al {w0 w : World} {g : Nat} {n : Int} {cut : List Bool} {cs : List MX} {F Z : List Item} (h : NetZ w0 w g n cut cs F Z) (t : TypeId) (vs : List Value) : NetZ w0 (w.alloc (.cells vs.toArray t)) g n cut cs (.blk w.heap.size t vs :: F) Z := by
  obtain ⟨A, c, fl, h1, h2, h3, h4, H⟩ := h
  exact NetZ.mk1 h1 h2 h3 h4 (H.alloc t vs)
theorem niscut_o {w0 w : World} {g : Nat} {n a b : Int} {cut : List Bool} {cs : List MX} {F Z : List Item} {r : Bool} (h : NetZ w0 w g n cut cs F Z) (hn : crowdB n = true) (hr : cutB n cut a b = r) :
    Calls Tryd.prog 15 #[.pointer (some ⟨g, 0, none⟩), .int .i64 a, .int .i64 b] w (RetN w0 g n cut cs F Z (.bool r)) := by
  obtain ⟨A, c, fl, h1, h2, h3, h4, H⟩ := h
  refine (niscut_h H hn h4 hr).mono ?_
  rintro e w' ⟨he, H⟩
  exact ⟨he, Z, fun _ h => h, A, c, fl, h1, h2, h3, h4, H⟩
theorem nall28_v {w0 w : World} {g gi : Nat} {n : Int} {cut : List Bool} {cs : List MX} {F Z : List Item} {is : List Int} {k : Nat} {r : Bool} (HN : NetZ w0 w g n cut cs (inI gi is :: F) Z) (hn : crowdB n = true) (hk : k = is.length) (hr : decide (ixs cs = is) = r) :
    Calls Tryd.prog 45 #[.pointer (some ⟨g, 0, none⟩), .slice (some ⟨gi, 0, none⟩) k k] w (RetN w0 g n cut cs F Z (.bool r)) := by
  subst hk hr
  exact (nall28_o HN hn).mono fun e w' h => h.drop
theorem ncut_v {w0 w : World} {g : Nat} {n a b r : Int} {cut cut' : List Bool} {cs cs' : List MX} {F Z : List Item} (HN : NetZ w0 w g n cut cs F Z) (hn : crowdB n = true) (h1 : ncutC n cut a b = cut') (h2 : ncutL n cut cs a b = cs') (h3 : ncutR n a b = r) :
    Calls Tryd.prog 14 #[.pointer (some ⟨g, 0, none⟩), .int .i64 a, .int .i64 b] w (RetN w0 g n cut' cs' F Z (.int .i64 r)) := by
  subst h1 h2 h3
  exact ncut_o HN hn a b
theorem ncopy_v {w0 w : World} {g : Nat} {n i r : Int} {cut : List Bool} {cs cs' : List MX} {F Z : List Item} (HN : NetZ w0 w g n cut cs F Z) (hn : crowdB n = true) (hk : i ≤ 9223372036854775807) (h2 : ncpyL cs i = cs') (h3 : ncpyR cs = r) :
    Calls Tryd.prog 12 #[.pointer (some ⟨g, 0, none⟩), .int .i64 i] w (RetN w0 g n cut cs' F Z (.int .i64 r)) := by
  subst h2 h3
  exact ncopy_o HN hn i hk
theorem cf_ft (args : Array Value) (w : World) : (callFunc 30 args).run Tryd.prog w = .ok (.enter 30 args) w := by kernel_rfl
theorem cf_all (args : Array Value) (w : World) : (callFunc 45 args).run Tryd.prog w = .ok (.enter 45 args) w := by kernel_rfl
theorem cf_ncut (args : Array Value) (w : World) : (callFunc 14 args).run Tryd.prog w = .ok (.enter 14 args) w := by kernel_rfl
theorem cf_nis (args : Array Value) (w : World) : (callFunc 15 args).run Tryd.prog w = .ok (.enter 15 args) w := by kernel_rfl
theorem cf_nsend (args : Array Value) (w : World) : (callFunc 11 args).run Tryd.prog w = .ok (.enter 11 args) w := by kernel_rfl
theorem cf_same20 (args : Array Value) (w : World) : (callFunc 31 args).run Tryd.prog w = .ok (.enter 31 args) w := by kernel_rfl
theorem Hp.toW {w0 w : World} {B x y : Item} {Y : List Item} (H : Hp w0 w (B :: x :: y :: Y)) : Hp w0 w ((x :: y :: Y) ++ [B]) := H.perm (List.perm_append_comm (l₁ := [B]) (l₂ := x :: y :: Y))
theorem Hp.ofW {w0 w : World} {B x y : Item} {Y : List Item} (H : Hp w0 w ((x :: y :: Y) ++ [B])) : Hp w0 w (B :: x :: y :: Y) := H.perm (List.perm_append_comm (l₁ := x :: y :: Y) (l₂ := [B]))
theorem NetZ.ofV {w0 w w' : World} {g : Nat} {n : Int} {cut : List Bool} {cs : List MX} {F Z : List Item} {v : Value} {e : Ending} (h : NetZ w0 w g n cut cs F Z) (hp : RetV w v e w') : RetN w0 g n cut cs F Z v e w' := ⟨hp.1, Z, fun _ h => h, h.call hp.2⟩
/-! the chapter's numbers -/
abbrev e1 : MX := ftX 0 1 1
abbrev e2 : MX := ftX 1 2 2
abbrev e3 : MX := ftX 2 0 3
abbrev e4 : MX := ftX 1 0 4
def cutA : List Bool := cut0.set 1 true
theorem i64s {a : Int} (h : (decide (0 ≤ a) && decide (a ≤ 1000)) = true) : I64 a := by
  simp only [Bool.and_eq_true, decide_eq_true_eq] at h
  exact ⟨by omega, by omega⟩
theorem c31 : ncutC 3 cut0 1 0 = cutA := by decide
theorem c32 : ncutL 3 cut0 [e1, e3] 1 0 = [e3] := rfl
theorem c33 : ncutR 3 1 0 = 0 := by decide
theorem c3 : crowdB 3 = true := by decide
theorem c4 : crowdB 4 = false := by decide
theorem len3 : 3 = ([3, 4, 3] : List Int).length := rfl
theorem ix3 : decide (ixs [e3, e4, e3] = [3, 4, 3]) = true := by decide
theorem tk1 : ntakL [e1, e2, e3] 4 = [e1, e3] := rfl
set_option maxHeartbeats 8000000 in
theorem awake28_any (w : World) (hF : FldW w) : Calls Tryd.prog 29 #[] w (RetV w (.bool true)) := by
  go_enter Tryd.func29, Tryd.ntmps29
  go_wp2_with (first | ((with_reducible refine Hp.allo (ty := 34) H ?_); refine ⟨rfl, ?_⟩; refine ⟨_, z_look rfl, ?_⟩; (clear H; intro g5 w1 H); go_frame) | ((with_reducible refine Hp.lda H ?_); refine ⟨rfl, by kernel_rfl, ?_⟩; refine ⟨_, s_look rfl, ?_⟩; refine ⟨_, rfl, ?_⟩; (first | refine ⟨_, _, _, .z, ?_⟩); refine ⟨rfl, ?_⟩; go_frame) | ((with_reducible refine Hp.lds H ?_); refine ⟨rfl, by kernel_rfl, ?_⟩; refine ⟨_, s_look rfl, ?_⟩; refine ⟨_, _, rfl, ?_⟩; (first | refine ⟨_, _, _, .z, ?_⟩); (first | refine ⟨[_, _], rfl, rfl, ?_⟩ | refine ⟨[_, _, _, _], rfl, rfl, ?_⟩ | refine ⟨[_, _, _, _, _, _, _], rfl, rfl, ?_⟩ | refine ⟨[_, _, _], rfl, rfl, ?_⟩ | (fail)); go_frame) | ((with_reducible refine Hp.sta H ?_); refine ⟨rfl, ?_⟩; refine ⟨_, s_look rfl, ?_⟩; refine ⟨_, rfl, _, rfl, rfl, ?_⟩; (first | refine ⟨_, _, _, .z, ?_⟩); refine ⟨rfl, rfl, ?_⟩; (clear H; intro w1 H; simp only [List.set] at H); go_frame) | ((with_reducible refine Hp.str H ?_); refine ⟨rfl, ?_⟩; refine ⟨_, s_look rfl, ?_⟩; refine ⟨_, _, rfl, _, rfl, rfl, ?_⟩; (first | refine ⟨_, _, _, .z, ?_⟩); refine ⟨rfl, _, rfl, _, rfl, Nat.le_of_ble_eq_true rfl, ?_⟩; (clear H; intro w1 H; simp only [List.set] at H); go_frame) | ((with_reducible refine (nnew_yes 3 _ c3).mono ?_); rintro _ w1 ⟨g, rfl, H0⟩; have HN := NetZ.new H0; clear H0) | ((with_reducible refine (nnew_no 4 _ c4).mono ?_); rintro _ w1 ⟨rfl, hb⟩; replace HN := HN.call hb; clear hb) | ((with_reducible refine (nfetch_any _ _ _ _).mono ?_); rintro _ w1 ⟨rfl, hb⟩; replace HN := HN.call hb; clear hb) | ((with_reducible refine (nsendf_v (cs := []) (cs' := [e1]) (a := 0) (b := 1) (i := 1) (r := 0) HN hF c3 (i64s rfl) (i64s rfl) (by decide) (by decide) rfl).mono ?_); rintro _ w1 ⟨rfl, Z2, hZs, HN2⟩; clear HN hZs; (have HN := HN2); clear HN2) | ((with_reducible refine (nsendf_v (cs := [e1]) (cs' := [e1, e2]) (a := 1) (b := 2) (i := 2) (r := 0) HN hF c3 (i64s rfl) (i64s rfl) (by decide) (by decide) rfl).mono ?_); rintro _ w1 ⟨rfl, Z2, hZs, HN2⟩; clear HN hZs; (have HN := HN2); clear HN2) | ((with_reducible refine (nsendf_v (cs := [e1, e2]) (cs' := [e1, e2, e3]) (a := 2) (b := 0) (i := 3) (r := 0) HN hF c3 (i64s rfl) (i64s rfl) (by decide) (by decide) rfl).mono ?_); rintro _ w1 ⟨rfl, Z2, hZs, HN2⟩; clear HN hZs; (have HN := HN2); clear HN2) | ((with_reducible refine (ntake_yes (cs := [e1, e2, e3]) HN c3 4 (by decide) (by simp) tk1).mono ?_); rintro _ w1 ⟨x, Z2, hx, rfl, hZs, hh, HN2⟩; clear HN hZs; obtain ⟨A, c, fl, hcs, hZ, h200, h49, H⟩ := HN2))
  have hx1 : cx x = e2 := by
    have h2 : [e1, e2, e3][natI [e1, e2, e3] 4]? = some e2 := rfl
    rw [h2] at hx
    injection hx with hx
    exact hx.symm
  have hsame : sameM x.m x.rs x.l (ftM 1 2 2) [] [] = true := sameX.2 (show cx x = cx ⟨ftM 1 2 2, [], []⟩ from hx1)
  clear hx hx1
  replace H := Hp.toW H
  refine hw_start (_ :: _ :: ([] ++ Z2)) [_] H (by kernel_rfl) (fun w1 H => ?_)
  replace H := Hp.ofW H
  have HN : NetZ w w1 g 3 cut0 [e1, e3] [.blk g5 34 (mgC x.m)] Z2 := NetZ.mk1 hcs hZ h200 h49 H
  clear H hcs hZ h200 h49
  have hS := HN.W
  (refine hw_take hS 0 (by decide +kernel) (by decide +kernel) (by decide +kernel) ⟨_, rfl, rfl, _, fun w h => ex_load rfl rfl (hw_lda (by kernel_rfl) s_Msg .z rfl w h), fun _ _ _ h => h, ?_⟩; go_frame)
  (refine hw_one 1 (by decide +kernel) ⟨_, rfl, rfl, fun K hK => ?_⟩); refine hw_callk (vs := [.int .i64 1, .int .i64 2, .int .i64 2]) (nfetch_any 1 2 2 _) cf_ft rfl rfl rfl (fun e w1 hp => ?_); obtain ⟨rfl, hb⟩ := hp; (replace HN := HN.call hb); clear hb; refine ⟨_, rfl, ?_⟩; refine hK _ _ HN.W ?_; clear hK K hS; go_frame; have hS := HN.W
  (refine hw_one 2 (by decide +kernel) ⟨_, rfl, rfl, fun K hK => ?_⟩); refine hw_callk (vs := [.agg (mgC x.m).toArray, .agg (mgC (ftM 1 2 2)).toArray]) ((msame_v hsame (HN.R hh (List.mem_singleton.2 rfl)) (ft_r 1 2 2 _)).mono (fun e w' hp => HN.ofV hp)) cf_same20 rfl rfl rfl (fun e w1 hp => ?_); obtain ⟨rfl, Z4, hZ4, HN2⟩ := hp; clear HN hZ4; (have HN := HN2); clear HN2; refine ⟨_, rfl, ?_⟩; refine hK _ _ HN.W ?_; clear hK K hS; go_frame; have hS := HN.W
  (refine hw_take hS 3 (by decide +kernel) (by decide +kernel) (by decide +kernel) ⟨_, rfl, rfl, ?_, ?_, fun _ _ _ h => h, ?_⟩; rotate_left; (intro w _; go_simp; try with_reducible rfl); go_frame)
  (refine hw_take hS 4 (by decide +kernel) (by decide +kernel) (by decide +kernel) ⟨_, rfl, rfl, ?_, ?_, fun _ _ _ h => h, ?_⟩; rotate_left; (intro w _; go_simp; try with_reducible rfl); go_frame)
  (refine hw_take hS 5 (by decide +kernel) (by decide +kernel) (by decide +kernel) ⟨_, rfl, rfl, ?_, ?_, fun _ _ _ h => h, ?_⟩; rotate_left; (intro w _; go_simp; try with_reducible rfl); go_frame)
  (refine hw_take hS 6 (by decide +kernel) (by decide +kernel) (by decide +kernel) ⟨_, rfl, rfl, ?_, ?_, fun _ _ _ h => h, ?_⟩; rotate_left; (intro w _; go_simp; try with_reducible rfl); go_frame)
  (refine hw_take hS 7 (by decide +kernel) (by decide +kernel) (by decide +kernel) ⟨_, rfl, rfl, ?_, ?_, fun _ _ _ h => h, ?_⟩; rotate_left; (intro w _; go_simp; try with_reducible rfl); go_frame)
  (refine hw_take hS 8 (by decide +kernel) (by decide +kernel) (by decide +kernel) ⟨_, rfl, rfl, ?_, ?_, fun _ _ _ h => h, ?_⟩; rotate_left; (intro w _; go_simp; try with_reducible rfl); go_frame)
  (refine hw_take hS 9 (by decide +kernel) (by decide +kernel) (by decide +kernel) ⟨_, rfl, rfl, ?_, ?_, fun _ _ _ h => h, ?_⟩; rotate_left; (intro w _; go_simp; try with_reducible rfl); go_frame)
  (refine hw_one 10 (by decide +kernel) ⟨_, rfl, rfl, fun K hK => ?_⟩); refine hw_callk (vs := [.pointer (some ⟨g, 0, none⟩), .int .i64 1, .int .i64 0]) (ncut_v HN c3 c31 c32 c33) cf_ncut rfl rfl rfl (fun e w1 hp => ?_); obtain ⟨rfl, Z4, hZ4, HN2⟩ := hp; clear HN hZ4; (have HN := HN2); clear HN2; refine ⟨_, rfl, ?_⟩; refine hK _ _ HN.W ?_; clear hK K hS; go_frame; have hS := HN.W
  (refine hw_take hS 11 (by decide +kernel) (by decide +kernel) (by decide +kernel) ⟨_, rfl, rfl, ?_, ?_, fun _ _ _ h => h, ?_⟩; rotate_left; (intro w _; go_simp; try with_reducible rfl); go_frame)
  (refine hw_take hS 12 (by decide +kernel) (by decide +kernel) (by decide +kernel) ⟨_, rfl, rfl, ?_, ?_, fun _ _ _ h => h, ?_⟩; rotate_left; (intro w _; go_simp; try with_reducible rfl); go_frame)
  (refine hw_take hS 13 (by decide +kernel) (by decide +kernel) (by decide +kernel) ⟨_, rfl, rfl, ?_, ?_, fun _ _ _ h => h, ?_⟩; rotate_left; (intro w _; go_simp; try with_reducible rfl); go_frame)
  (refine hw_take hS 14 (by decide +kernel) (by decide +kernel) (by decide +kernel) ⟨_, rfl, rfl, ?_, ?_, fun _ _ _ h => h, ?_⟩; rotate_left; (intro w _; go_simp; try with_reducible rfl); go_frame)
  (refine hw_one 15 (by decide +kernel) ⟨_, rfl, rfl, fun K hK => ?_⟩); refine hw_turn (ex_bslI (l := [3]) rfl rfl rfl rfl rfl) ?_; (have HN2 := HN.al 3 (inC [3])); clear HN; (have HN := HN2); clear HN2; refine hK _ _ HN.W2 ?_; clear hK K hS; go_frame; have hS := HN.W2
  (refine hw_one 16 (by decide +kernel) ⟨_, rfl, rfl, fun K hK => ?_⟩); refine hw_callk (vs := [.pointer (some ⟨g, 0, none⟩), .slice (some ⟨_, 0, none⟩) 1 1]) (nall28_v (is := [3]) HN c3 rfl (r := true) (by decide)) cf_all rfl rfl rfl (fun e w1 hp => ?_); obtain ⟨rfl, Z4, hZ4, HN2⟩ := hp; clear HN hZ4; (have HN := HN2); clear HN2; refine ⟨_, rfl, ?_⟩; refine hK _ _ HN.W ?_; clear hK K hS; go_frame; have hS := HN.W
  (refine hw_take hS 17 (by decide +kernel) (by decide +kernel) (by decide +kernel) ⟨_, rfl, rfl, ?_, ?_, fun _ _ _ h => h, ?_⟩; rotate_left; (intro w _; go_simp; try with_reducible rfl); go_frame)
  (refine hw_take hS 18 (by decide +kernel) (by decide +kernel) (by decide +kernel) ⟨_, rfl, rfl, ?_, ?_, fun _ _ _ h => h, ?_⟩; rotate_left; (intro w _; go_simp; try with_reducible rfl); go_frame)
  (refine hw_take hS 19 (by decide +kernel) (by decide +kernel) (by decide +kernel) ⟨_, rfl, rfl, ?_, ?_, fun _ _ _ h => h, ?_⟩; rotate_left; (intro w _; go_simp; try with_reducible rfl); go_frame)
  (refine hw_take hS 20 (by decide +kernel) (by decide +kernel) (by decide +kernel) ⟨_, rfl, rfl, ?_, ?_, fun _ _ _ h => h, ?_⟩; rotate_left; (intro w _; go_simp; try with_reducible rfl); go_frame)
  (refine hw_one 21 (by decide +kernel) ⟨_, rfl, rfl, fun K hK => ?_⟩); refine hw_callk (vs := [.int .i64 1, .int .i64 0, .int .i64 4]) (nfetch_any 1 0 4 _) cf_ft rfl rfl rfl (fun e w1 hp => ?_); obtain ⟨rfl, hb⟩ := hp; (replace HN := HN.call hb); clear hb; refine ⟨_, rfl, ?_⟩; refine hK _ _ HN.W ?_; clear hK K hS; go_frame; have hS := HN.W
  (refine hw_one 22 (by decide +kernel) ⟨_, rfl, rfl, fun K hK => ?_⟩); refine hw_callk (vs := [.pointer (some ⟨g, 0, none⟩), .agg (mgC (ftM 1 0 4)).toArray]) (nsendf_v (cs := [e3]) (cs' := [e3]) (r := 0) HN hF c3 (i64s rfl) (i64s rfl) (by decide) (by decide) rfl) cf_nsend rfl rfl rfl (fun e w1 hp => ?_); obtain ⟨rfl, Z4, hZ4, HN2⟩ := hp; clear HN hZ4; (have HN := HN2); clear HN2; refine ⟨_, rfl, ?_⟩; refine hK _ _ HN.W ?_; clear hK K hS; go_frame; have hS := HN.W
  (refine hw_take hS 23 (by decide +kernel) (by decide +kernel) (by decide +kernel) ⟨_, rfl, rfl, ?_, ?_, fun _ _ _ h => h, ?_⟩; rotate_left; (intro w _; go_simp; try with_reducible rfl); go_frame)
  (refine hw_take hS 24 (by decide +kernel) (by decide +kernel) (by decide +kernel) ⟨_, rfl, rfl, ?_, ?_, fun _ _ _ h => h, ?_⟩; rotate_left; (intro w _; go_simp; try with_reducible rfl); go_frame)
  (refine hw_take hS 25 (by decide +kernel) (by decide +kernel) (by decide +kernel) ⟨_, rfl, rfl, ?_, ?_, fun _ _ _ h => h, ?_⟩; rotate_left; (intro w _; go_simp; try with_reducible rfl); go_frame)
  (refine hw_take hS 26 (by decide +kernel) (by decide +kernel) (by decide +kernel) ⟨_, rfl, rfl, ?_, ?_, fun _ _ _ h => h, ?_⟩; rotate_left; (intro w _; go_simp; try with_reducible rfl); go_frame)
  (refine hw_one 27 (by decide +kernel) ⟨_, rfl, rfl, fun K hK => ?_⟩); refine hw_turn (ex_bslI (l := [3]) rfl rfl rfl rfl rfl) ?_; (have HN2 := HN.al 3 (inC [3])); clear HN; (have HN := HN2); clear HN2; refine hK _ _ HN.W2 ?_; clear hK K hS; go_frame; have hS := HN.W2
  (refine hw_one 28 (by decide +kernel) ⟨_, rfl, rfl, fun K hK => ?_⟩); refine hw_callk (vs := [.pointer (some ⟨g, 0, none⟩), .slice (some ⟨_, 0, none⟩) 1 1]) (nall28_v (is := [3]) HN c3 rfl (r := true) (by decide)) cf_all rfl rfl rfl (fun e w1 hp => ?_); obtain ⟨rfl, Z4, hZ4, HN2⟩ := hp; clear HN hZ4; (have HN := HN2); clear HN2; refine ⟨_, rfl, ?_⟩; refine hK _ _ HN.W ?_; clear hK K hS; go_frame; have hS := HN.W
  (refine hw_take hS 29 (by decide +kernel) (by decide +kernel) (by decide +kernel) ⟨_, rfl, rfl, ?_, ?_, fun _ _ _ h => h, ?_⟩; rotate_left; (intro w _; go_simp; try with_reducible rfl); go_frame)
  (refine hw_take hS 30 (by decide +kernel) (by decide +kernel) (by decide +kernel) ⟨_, rfl, rfl, ?_, ?_, fun _ _ _ h => h, ?_⟩; rotate_left; (intro w _; go_simp; try with_reducible rfl); go_frame)
  (refine hw_take hS 31 (by decide +kernel) (by decide +kernel) (by decide +kernel) ⟨_, rfl, rfl, ?_, ?_, fun _ _ _ h => h, ?_⟩; rotate_left; (intro w _; go_simp; try with_reducible rfl); go_frame)
  (refine hw_take hS 32 (by decide +kernel) (by decide +kernel) (by decide +kernel) ⟨_, rfl, rfl, ?_, ?_, fun _ _ _ h => h, ?_⟩; rotate_left; (intro w _; go_simp; try with_reducible rfl); go_frame)
  (refine hw_one 33 (by decide +kernel) ⟨_, rfl, rfl, fun K hK => ?_⟩); refine hw_callk (vs := [.pointer (some ⟨g, 0, none⟩), .int .i64 0, .int .i64 1]) (niscut_o HN c3 (r := true) (by decide)) cf_nis rfl rfl rfl (fun e w1 hp => ?_); obtain ⟨rfl, Z4, hZ4, HN2⟩ := hp; clear HN hZ4; (have HN := HN2); clear HN2; refine ⟨_, rfl, ?_⟩; refine hK _ _ HN.W ?_; clear hK K hS; go_frame; have hS := HN.W
  (refine hw_take hS 34 (by decide +kernel) (by decide +kernel) (by decide +kernel) ⟨_, rfl, rfl, ?_, ?_, fun _ _ _ h => h, ?_⟩; rotate_left; (intro w _; go_simp; try with_reducible rfl); go_frame)
  (refine hw_take hS 35 (by decide +kernel) (by decide +kernel) (by decide +kernel) ⟨_, rfl, rfl, ?_, ?_, fun _ _ _ h => h, ?_⟩; rotate_left; (intro w _; go_simp; try with_reducible rfl); go_frame)
  refine wpAnyH_done (by kernel_rfl) ?_ _
  clear hS
  go_wp2_with (first | ((with_reducible refine Hp.allo (ty := 34) H ?_); refine ⟨rfl, ?_⟩; refine ⟨_, z_look rfl, ?_⟩; (clear H; intro g5 w1 H); go_frame) | ((with_reducible refine Hp.lda H ?_); refine ⟨rfl, by kernel_rfl, ?_⟩; refine ⟨_, s_look rfl, ?_⟩; refine ⟨_, rfl, ?_⟩; (first | refine ⟨_, _, _, .z, ?_⟩); refine ⟨rfl, ?_⟩; go_frame) | ((with_reducible refine Hp.lds H ?_); refine ⟨rfl, by kernel_rfl, ?_⟩; refine ⟨_, s_look rfl, ?_⟩; refine ⟨_, _, rfl, ?_⟩; (first | refine ⟨_, _, _, .z, ?_⟩); (first | refine ⟨[_, _], rfl, rfl, ?_⟩ | refine ⟨[_, _, _, _], rfl, rfl, ?_⟩ | refine ⟨[_, _, _, _, _, _, _], rfl, rfl, ?_⟩ | refine ⟨[_, _, _], rfl, rfl, ?_⟩ | (fail)); go_frame) | ((with_reducible refine Hp.sta H ?_); refine ⟨rfl, ?_⟩; refine ⟨_, s_look rfl, ?_⟩; refine ⟨_, rfl, _, rfl, rfl, ?_⟩; (first | refine ⟨_, _, _, .z, ?_⟩); refine ⟨rfl, rfl, ?_⟩; (clear H; intro w1 H; simp only [List.set] at H); go_frame) | ((with_reducible refine Hp.str H ?_); refine ⟨rfl, ?_⟩; refine ⟨_, s_look rfl, ?_⟩; refine ⟨_, _, rfl, _, rfl, rfl, ?_⟩; (first | refine ⟨_, _, _, .z, ?_⟩); refine ⟨rfl, _, rfl, _, rfl, Nat.le_of_ble_eq_true rfl, ?_⟩; (clear H; intro w1 H; simp only [List.set] at H); go_frame) | ((with_reducible refine (nheal_o HN c3).mono ?_); rintro _ w1 ⟨rfl, Z2, hZs, HN2⟩; clear HN hZs; (have HN := HN2); clear HN2) | ((with_reducible refine (nfetch_any _ _ _ _).mono ?_); rintro _ w1 ⟨rfl, hb⟩; replace HN := HN.call hb; clear hb) | ((with_reducible refine (nsendf_v (cs := [e3]) (cs' := [e3, e4]) (a := 1) (b := 0) (i := 4) (r := 0) HN hF c3 (i64s rfl) (i64s rfl) (by decide) (by decide) rfl).mono ?_); rintro _ w1 ⟨rfl, Z2, hZs, HN2⟩; clear HN hZs; (have HN := HN2); clear HN2) | ((with_reducible refine (ncopy_v (cs := [e3, e4]) (cs' := [e3, e4, e3]) (r := 0) HN c3 (by decide) rfl rfl).mono ?_); rintro _ w1 ⟨rfl, Z2, hZs, HN2⟩; clear HN hZs; (have HN := HN2); clear HN2) | ((obtain ⟨A, c, fl, hcs, hZ, h200, h49, H⟩ := HN); (with_reducible refine Hp.bslI (parts := [_, _, _]) H ?_); refine ⟨rfl, [3, 4, 3], rfl, rfl, rfl, rfl, ?_⟩; (clear H; intro gi2 w1 H); (have HN := NetZ.mk1 hcs hZ h200 h49 H); clear H hcs hZ h200 h49; go_frame) | ((with_reducible refine (nall28_v (is := [3, 4, 3]) (r := true) HN c3 len3 ix3).mono ?_); rintro _ w1 ⟨rfl, Z2, hZs, HN2⟩; clear HN hZs; (have HN := HN2); clear HN2) | ((with_reducible refine (ncut_v (cut' := cut0) (cs' := [e3, e4, e3]) (r := 2) HN c3 rfl rfl rfl).mono ?_); rintro _ w1 ⟨rfl, Z2, hZs, HN2⟩; clear HN hZs; (have HN := HN2); clear HN2) | ((with_reducible refine (nsendf_v (cs := [e3, e4, e3]) (cs' := [e3, e4, e3]) (a := 0) (b := 0) (i := 1) (r := 2) HN hF c3 (i64s rfl) (i64s rfl) (by decide) (by decide) rfl).mono ?_); rintro _ w1 ⟨rfl, Z2, hZs, HN2⟩; clear HN hZs; (have HN := HN2); clear HN2) | ((with_reducible refine (niscut_o (r := false) HN c3 (by decide)).mono ?_); rintro _ w1 ⟨rfl, Z2, hZs, HN2⟩; clear HN hZs; (have HN := HN2); clear HN2))
  go_ret
  exact ⟨rfl, HN.below⟩
end Go.Proofs.YtiieakndjheknaaDoor
