/-
  THE WALK OF (*message.reader).field: the reports.
-/
import Derived.Test.YtajgikjmoeemnaaDoorPaB
namespace Go.Proofs.YtajgikjmoeemnaaDoor
set_option maxRecDepth 100000
open Go.RowKit
set_option linter.unusedVariables false
set_option linter.unusedSimpArgs false
theorem Hp.sh4 {w0 w : World} {a b c d : Item} {L : List Item} (H : Hp w0 w (a :: b :: c :: d :: L)) : Hp w0 w (c :: d :: a :: b :: L) :=
  H.perm ((List.perm_append_comm (l₁ := [a, b]) (l₂ := [c, d])).append_right L)
theorem num_w {l : List UInt8} {s s' : Ps} {width N : Int} (hS : nS l s width = s') (hN : nN l s width = N) (A : Option Addr) (c : Nat) (g : Nat) (w0 w : World) (L : List Item) (hr : Rd w0 A l) (hc : l.length ≤ c) (hm : c ≤ maxLen) (H : Hp w0 w (rdI g A l.length c s :: L)) :
    Calls Tryd.prog 43 #[.pointer (some ⟨g, 0, none⟩), .int .i64 width] w (RetH w0 (rdI g A l.length c s' :: L) (.int .i64 N)) := by
  subst hN hS
  exact num_any A c l s width g w0 w L hr hc hm H
theorem bal_w {l : List UInt8} {s s' : Ps} {r p : Int} (hS : nS l (nS l s 6) 1 = s') (h1 : nN l s 6 = r) (h2 : nN l (nS l s 6) 1 = p) (A : Option Addr) (c : Nat) (g : Nat) (w0 w : World) (L : List Item) (hr : Rd w0 A l) (hc : l.length ≤ c) (hm : c ≤ maxLen) (H : Hp w0 w (rdI g A l.length c s :: L)) :
    Calls Tryd.prog 68 #[.pointer (some ⟨g, 0, none⟩)] w (RetH w0 (rdI g A l.length c s' :: L) (.agg (baC r p).toArray)) := by
  subst hS h1 h2
  exact bal_any A c l s g w0 w L hr hc hm H
theorem ent_w {l : List UInt8} {s s' : Ps} {e : En} (hS : eP l s = s') (h1 : eV l s = e) (A : Option Addr) (c : Nat) (g : Nat) (w0 w : World) (L : List Item) (hr : Rd w0 A l) (hc : l.length ≤ c) (hm : c ≤ maxLen) (H : Hp w0 w (rdI g A l.length c s :: L)) :
    Calls Tryd.prog 69 #[.pointer (some ⟨g, 0, none⟩)] w (RetH w0 (rdI g A l.length c s' :: L) (.agg (enC e).toArray)) := by
  subst hS h1
  exact ent_any A c l s g w0 w L hr hc hm H
theorem b_rp1 (i : Int) : Tryd.prog.built 55 [(0, .int .i64 i)] = some (rpC ⟨i, 0, 0, 0, en0⟩).toArray := by kernel_rfl
theorem rows_snoc (rs : List Rp) (x : Rp) : rowsC rpC (rs ++ [x]) = rowsC rpC rs ++ rpC x := by simp [rowsC]
/-- the loop's relation -/
def PLRel (l : List UInt8) (K : Nat) (s0 : Ps) (r0 : List Rp) (w0 : World) (g gm : Nat) (A : Option Addr) (c : Nat) (t : Mg) (y : List UInt8) (By : Option Addr) (dy : Nat) (L : List Item) (v : Value) (wr : World) : Prop :=
  ∃ (k : Nat) (s : Ps) (rs : List Rp) (Ar : Option Addr) (cr : Nat), v = .int .i64 k ∧ rs.length + k ≤ 1000000 ∧ repsP l K s0 = repsP l k s ∧ r0 ++ repsV l K s0 = rs ++ repsV l k s ∧
    Hp w0 wr (rdI g A l.length c s :: mgI gm t rs y Ar cr By dy :: rwI Ar cr rs :: L)
def RetR (w0 : World) (g gm : Nat) (A : Option Addr) (n c : Nat) (By : Option Addr) (dy : Nat) (x : St) (L : List Item) (e : Ending) (w' : World) : Prop :=
  ∃ Ar cr, e = .returned (.tuple #[]) ∧ Hp w0 w' (rdI g A n c x.s :: mgI gm x.t x.rs x.y Ar cr By dy :: rwI Ar cr x.rs :: L)
theorem rp_info2 : (Tryd.prog.info? 55).map (fun i => (i.zero.isSome, i.size)) = some (true, 11) := by kernel_rfl
theorem mg_app (t : Mg) (rs : List Rp) (x : Rp) (y : List UInt8) (Ar : Option Addr) (cr : Nat) (By : Option Addr) (dy : Nat) (A1 : Option Addr) (c1 : Nat) : (mgC (cpM t rs y Ar cr By dy)).set 25 (.slice A1 (rs.length + 1) c1) = mgC (cpM t (rs ++ [x]) y A1 c1 By dy) := by
  unfold cpM
  rw [List.length_append]
  rfl
theorem rw_app (rs : List Rp) (x : Rp) (A1 : Option Addr) (c1 : Nat) : Item.own 55 11 A1 (rs.length + 1) c1 (rowsC rpC rs ++ rpC x) = rwI A1 c1 (rs ++ [x]) := by
  unfold rwI Item.rows
  rw [rows_snoc, List.length_append]
  rfl
set_option maxHeartbeats 8000000 in
theorem rf_108 (s : Ps) (t : Mg) (rs : List Rp) (y : List UInt8) (A : Option Addr) (c : Nat) (l : List UInt8) (g gm : Nat) (Ar : Option Addr) (cr : Nat) (By : Option Addr) (dy : Nat) (w0 w : World) (L : List Item) (hr : Rd w0 A l) (hc : l.length ≤ c) (hm : c ≤ maxLen) (hn : rs.length ≤ 1000) (H : Hp w0 w (rdI g A l.length c s :: mgI gm t rs y Ar cr By dy :: rwI Ar cr rs :: L)) :
    Calls Tryd.prog 45 #[.pointer (some ⟨g, 0, none⟩), .pointer (some ⟨gm, 0, none⟩), .int .i32 108] w (RetR w0 g gm A l.length c By dy (fldP l 108 ⟨s, t, rs, y⟩) L) := by
  have e : fldP l 108 ⟨s, t, rs, y⟩ = ⟨repsP l (nN l s 1).toNat (nS l s 1), t, rs ++ repsV l (nN l s 1).toNat (nS l s 1), y⟩ := rfl
  rw [e]
  clear e
  have hu := nN_byte l s
  obtain ⟨K, hK⟩ : ∃ K : Nat, nN l s 1 = K := ⟨(nN l s 1).toNat, by omega⟩
  rw [hK] at hu ⊢
  rw [Int.toNat_natCast]
  obtain ⟨s1, hs1⟩ : ∃ s1, nS l s 1 = s1 := ⟨_, rfl⟩
  rw [hs1]
  have HX0 := Lib.hid hs1
  have HK0 := Lib.hid hK
  clear hs1 hK
  go_enter Tryd.func45, Tryd.ntmps45
  go_wp2_with (first | ((with_reducible refine (num_w HX0.out HK0.out A c g w0 _ _ hr hc hm H).mono ?_); rintro _ w1 ⟨rfl, HQ⟩; replace H := HQ; clear HQ))
  have hat : PLRel l K s1 rs w0 g gm A c t y By dy L (.int .i64 (K : Nat)) w1 := ⟨K, s1, rs, Ar, cr, rfl, by omega, rfl, rfl, H⟩
  obtain ⟨R, hR0, hat⟩ := R_of hat
  clear H HX0 HK0 hu hn
  go_loopw [7, 8] (fun v _ wr => R v wr) (fun v _ _ => (intOf v).toNat)
  case atStart => exact hat
  case round =>
    clear hat
    rw [hR0] at hrel
    obtain ⟨k, s, rs', Ar, cr, rfl, hlen, hqP, hqV, H⟩ := hrel
    have HQP := Lib.hid hqP
    have HQV := Lib.hid hqV
    clear hqP hqV
    obtain rfl | ⟨j, rfl⟩ : k = 0 ∨ ∃ j, k = j + 1 := by cases k with | zero => exact .inl rfl | succ j => exact .inr ⟨j, rfl⟩
    · have hfin : (⟨repsP l K s1, t, rs ++ repsV l K s1, y⟩ : St) = ⟨s, t, rs', y⟩ := by rw [HQP.out, HQV.out]; simp [repsP, repsV]
      have HFI := Lib.hid hfin
      clear hfin HQP HQV
      go_wp2_with (first | (fail))
      go_end0
      refine ⟨Ar, cr, rfl, ?_⟩
      rw [HFI.out]
      exact H
    · have d0 : decide ((0 : Int) < (j : Int) + 1) = true := decide_eq_true (by omega)
      by_cases he : s.e = 0
      · have hP : repsP l (j + 1) s = repsP l j (repP l s) := by show (if s.e = 0 then _ else _) = _; rw [if_pos he]
        have hV : repsV l (j + 1) s = repV l s :: repsV l j (repP l s) := by show (if s.e = 0 then _ else _) = _; rw [if_pos he]
        have hqP : repsP l K s1 = repsP l j (repP l s) := by rw [HQP.out, hP]
        have hqV : rs ++ repsV l K s1 = (rs' ++ [repV l s]) ++ repsV l j (repP l s) := by rw [HQV.out, hV, List.append_assoc]; rfl
        have HQP2 := Lib.hid hqP
        have HQV2 := Lib.hid hqV
        clear HQP HQV hP hV hqP hqV
        have hwr : IntKind.i64.wrap ((j : Int) + 1 - 1) = j := by rw [Int.add_sub_cancel]; exact IntWalk.i64_in _ (by omega)
        have hql : rs'.length ≤ 1000000 := by omega
        obtain ⟨x1, h1⟩ : ∃ x1, nS l s 6 = x1 := ⟨_, rfl⟩
        obtain ⟨ix, h2⟩ : ∃ x1, nN l s 6 = x1 := ⟨_, rfl⟩
        obtain ⟨x2, h3⟩ : ∃ x2, nS l x1 1 = x2 := ⟨_, rfl⟩
        obtain ⟨st, h4⟩ : ∃ x1', nN l x1 1 = x1' := ⟨_, rfl⟩
        obtain ⟨x4, h5⟩ : ∃ x4, nS l (nS l x2 6) 1 = x4 := ⟨_, rfl⟩
        obtain ⟨r, h6⟩ : ∃ x, nN l x2 6 = x := ⟨_, rfl⟩
        obtain ⟨p, h7⟩ : ∃ x, nN l (nS l x2 6) 1 = x := ⟨_, rfl⟩
        obtain ⟨x5, h8⟩ : ∃ x, eP l x4 = x := ⟨_, rfl⟩
        obtain ⟨e, h9⟩ : ∃ x, eV l x4 = x := ⟨_, rfl⟩
        have hbs := nN_byte l x1
        rw [h4] at hbs
        have hrP : repP l s = if st = 4 then x2 else if st = 2 then x5 else x4 := by
          unfold repP
          simp only [h1, h3, h4, h5, h8]
        have hrV : repV l s = ⟨ix, st, if st = 4 then 0 else r, if st = 4 then 0 else p, if st = 2 then e else en0⟩ := by
          unfold repV
          simp only [h1, h2, h3, h4, h5, h6, h7, h9]
        have HS1 := Lib.hid h1
        have HIX := Lib.hid h2
        have HS2 := Lib.hid h3
        have HST := Lib.hid h4
        have HS4 := Lib.hid h5
        have HR := Lib.hid h6
        have HP := Lib.hid h7
        have HS5 := Lib.hid h8
        have HEN := Lib.hid h9
        have HRP := Lib.hid hrP
        have HRV := Lib.hid hrV
        clear h1 h2 h3 h4 h5 h6 h7 h8 h9 hrP hrV
        have hw : IntKind.u8.wrap st = st := by unfold IntKind.wrap; simp [IntKind.signed, IntKind.bits]; omega
        clear hbs
        by_cases h4 : st = 4
        · subst h4
          obtain ⟨X, hX⟩ : ∃ X, (⟨ix, 4, 0, 0, en0⟩ : Rp) = X := ⟨_, rfl⟩
          have HQ1 : Hid (repsP l K s1 = repsP l j x2) := Lib.hid (by rw [HQP2.out, HRP.out, if_pos rfl])
          have HQ2 : Hid (rs ++ repsV l K s1 = (rs' ++ [X]) ++ repsV l j x2) := Lib.hid (by rw [HQV2.out, HRP.out, HRV.out, if_pos rfl, ← hX]; rfl)
          clear HQP2 HQV2 HRP HRV
          go_wp2_with (first | ((with_reducible refine Hp.allo (ty := 55) H ?_); refine ⟨rfl, ?_⟩; refine ⟨_, z_look rfl, ?_⟩; (clear H; intro g8 w1 H); (replace H := H.rot2); go_frame) | ((with_reducible refine Hp.ld H ?_); refine ⟨rfl, ?_⟩; refine ⟨c_look rfl, ?_⟩; refine ⟨_, _, rfl, ?_⟩; (first | refine ⟨_, _, _, .z, ?_⟩ | refine ⟨_, _, _, .s .z, ?_⟩ | refine ⟨_, _, _, .s (.s .z), ?_⟩); refine ⟨_, rfl, ?_⟩; go_frame) | ((with_reducible refine Hp.stv H ?_); refine ⟨rfl, ?_⟩; refine ⟨c_look rfl, ?_⟩; (first | refine ⟨.bool _, rfl, ?_⟩ | refine ⟨.int _ _, rfl, ?_⟩ | refine ⟨.string _, rfl, ?_⟩ | refine ⟨.slice _ _ _, rfl, ?_⟩ | refine ⟨.pointer _, rfl, ?_⟩); refine ⟨rfl, _, _, rfl, ?_⟩; (first | refine ⟨_, _, _, .z, ?_⟩ | refine ⟨_, _, _, .s .z, ?_⟩ | refine ⟨_, _, _, .s (.s .z), ?_⟩); refine ⟨⟨_, rfl⟩, ?_⟩; (clear H; intro w1 H; simp only [List.set] at H); go_frame) | ((with_reducible refine Hp.sta H ?_); refine ⟨rfl, ?_⟩; refine ⟨_, s_look rfl, ?_⟩; refine ⟨_, rfl, _, rfl, rfl, ?_⟩; (first | refine ⟨_, _, _, .z, ?_⟩ | refine ⟨_, _, _, .s .z, ?_⟩ | refine ⟨_, _, _, .s (.s .z), ?_⟩); refine ⟨rfl, rfl, ?_⟩; (clear H; intro w1 H; simp only [List.set] at H); go_frame) | ((with_reducible refine Hp.bdl (t := 55) (parts := [_]) H ?_); refine ⟨rfl, _, b_rp1 _, ?_⟩; go_frame) | ((with_reducible refine (num_w HS1.out HIX.out A c g w0 _ _ hr hc hm H).mono ?_); rintro _ w1 ⟨rfl, HQ⟩; replace H := HQ; clear HQ) | ((with_reducible refine (num_w HS2.out HST.out A c g w0 _ _ hr hc hm H).mono ?_); rintro _ w1 ⟨rfl, HQ⟩; replace H := HQ; clear HQ))
          replace H : Hp w0 w1 (rdI g A l.length c x2 :: .blk g8 55 (rpC ⟨ix, 4, 0, 0, en0⟩) :: mgI gm t rs' y Ar cr By dy :: rwI Ar cr rs' :: L) := H
          rw [hX] at H
          (replace H := H.sh4; refine hw_start [_, _, _] (_ :: L) H (by kernel_rfl) (fun w1 H => ?_); have hS : HpW _ _ w1 := ⟨[_, _, _], H⟩; simp only [List.cons_append, List.nil_append] at H; (refine hw_take hS 0 (by decide +kernel) (by decide +kernel) (by decide +kernel) ⟨_, rfl, rfl, ?_, ?_, fun _ _ _ h => h, ?_⟩; rotate_left; (intro w _; go_simp; try with_reducible rfl); go_frame); (refine hw_take hS 1 (by decide +kernel) (by decide +kernel) (by decide +kernel) ⟨_, rfl, rfl, ?_, ?_, fun _ _ _ h => h, ?_⟩; rotate_left; (intro w _; go_simp; try with_reducible rfl); go_frame); (refine hw_take hS 2 (by decide +kernel) (by decide +kernel) (by decide +kernel) ⟨_, rfl, rfl, ?_, ?_, fun _ _ _ h => h, ?_⟩; rotate_left; (intro w _; go_simp; try with_reducible rfl); go_frame); (refine hw_take hS 3 (by decide +kernel) (by decide +kernel) (by decide +kernel) ⟨_, rfl, rfl, ?_, ?_, fun _ _ _ h => h, ?_⟩; rotate_left; (intro w _; go_simp; try with_reducible rfl); go_frame); (refine hw_take hS 5 (by decide +kernel) (by decide +kernel) (by decide +kernel) ⟨_, rfl, rfl, _, fun w h => ex_load rfl rfl (hw_lda (by kernel_rfl) s_Report .z rfl w h), fun _ _ _ h => h, ?_⟩; go_frame); clear hS)
          refine hw_two 4 6 (by decide +kernel) ⟨_, rfl, rfl, fun K hK => ?_⟩ ⟨_, rfl, rfl, fun K hK => ?_⟩
          · (refine hw_value (v := .slice Ar rs'.length cr) (ex_load rfl rfl (run_loadAt_cell (oneT_c (by kernel_rfl)) (H.c 0 rfl 25 rfl))) ?_; refine hK _ _ ⟨[_, _, _], H⟩ ?_; clear hK K; go_frame; have hS : HpW _ _ _ := ⟨[_, _, _], H⟩)
            clear hS
            (refine hw_one 6 (by decide +kernel) ⟨_, rfl, rfl, fun K hK => ?_⟩)
            (refine hw_bsl1 rfl rps_u rp_info2 rfl rfl rfl rfl H (fun gb w1 H => ?_); refine hK _ _ ⟨[_, _, _, _], H⟩ ?_; clear hK K; go_frame; have hS : HpW _ _ _ := ⟨[_, _, _, _], H⟩)
            (clear hS; (refine hw_one 7 (by decide +kernel) ⟨_, rfl, rfl, fun K hK => ?_⟩); (refine hw_appRow rfl rfl rfl rps_u rp_info rfl rfl rfl H 2 0 rfl rfl rfl (rpC_one _) hql (fun A1 c1 w1 H => ?_); (try simp only [List.set_cons_succ, List.set_cons_zero] at H); refine hK _ _ ⟨[_, _, _, _], H⟩ ?_; clear hK K; go_frame; have hS : HpW _ _ _ := ⟨[_, _, _, _], H⟩); (refine hw_take hS 8 (by decide +kernel) (by decide +kernel) (by decide +kernel) ⟨_, rfl, rfl, ?_, ?_, fun _ _ _ h => h, ?_⟩; rotate_left; (intro w _; go_simp; try with_reducible rfl); go_frame); (refine hw_take hS 9 (by decide +kernel) (by decide +kernel) (by decide +kernel) ⟨_, rfl, rfl, ?_, ?_, fun _ _ _ h => h, ?_⟩; rotate_left; (intro w _; go_simp; try with_reducible rfl); go_frame); clear hS; (refine hw_one 10 (by decide +kernel) ⟨_, rfl, rfl, fun K hK => ?_⟩; refine hw_sto (v := .slice A1 (rs'.length + 1) c1) (by kernel_rfl) rfl rfl rfl H (.s .z) (Nat.le_of_ble_eq_true rfl) rfl (fun w1 H => hK _ _ ⟨[_, _, _, _], H⟩ ?_); clear hK K; (try simp only [List.set_cons_succ, List.set_cons_zero] at H); go_frame; have hS : HpW _ _ w1 := ⟨[_, _, _, _], H⟩); refine wpAnyH_done (by kernel_rfl) ?_ _; clear hS)
            (replace H := H.tail; rw [mg_app t rs' X y Ar cr By dy A1 c1, rw_app rs' X A1 c1] at H; replace H := (H.sh4).rot2.tail)
            (go_wp2_with (first | (fail)); go_roundw; (case rel => rw [hR0]; exact ⟨j, _, _, A1, c1, rfl, (by rw [List.length_append]; simp only [List.length_cons, List.length_nil]; omega), HQ1.out, HQ2.out, H⟩); (case measure => show ((j : Int)).toNat < ((j : Int) + 1).toNat; omega))
          · (refine hw_bsl1 rfl rps_u rp_info2 rfl rfl rfl rfl H (fun gb w1 H => ?_); refine hK _ _ ⟨[_, _, _, _], H⟩ ?_; clear hK K; go_frame; have hS : HpW _ _ _ := ⟨[_, _, _, _], H⟩)
            clear hS
            (refine hw_one 4 (by decide +kernel) ⟨_, rfl, rfl, fun K hK => ?_⟩)
            (refine hw_value (v := .slice Ar rs'.length cr) (ex_load rfl rfl (run_loadAt_cell (oneT_c (by kernel_rfl)) (H.c 1 rfl 25 rfl))) ?_; refine hK _ _ ⟨[_, _, _, _], H⟩ ?_; clear hK K; go_frame; have hS : HpW _ _ _ := ⟨[_, _, _, _], H⟩)
            (clear hS; (refine hw_one 7 (by decide +kernel) ⟨_, rfl, rfl, fun K hK => ?_⟩); (refine hw_appRow rfl rfl rfl rps_u rp_info rfl rfl rfl H 2 0 rfl rfl rfl (rpC_one _) hql (fun A1 c1 w1 H => ?_); (try simp only [List.set_cons_succ, List.set_cons_zero] at H); refine hK _ _ ⟨[_, _, _, _], H⟩ ?_; clear hK K; go_frame; have hS : HpW _ _ _ := ⟨[_, _, _, _], H⟩); (refine hw_take hS 8 (by decide +kernel) (by decide +kernel) (by decide +kernel) ⟨_, rfl, rfl, ?_, ?_, fun _ _ _ h => h, ?_⟩; rotate_left; (intro w _; go_simp; try with_reducible rfl); go_frame); (refine hw_take hS 9 (by decide +kernel) (by decide +kernel) (by decide +kernel) ⟨_, rfl, rfl, ?_, ?_, fun _ _ _ h => h, ?_⟩; rotate_left; (intro w _; go_simp; try with_reducible rfl); go_frame); clear hS; (refine hw_one 10 (by decide +kernel) ⟨_, rfl, rfl, fun K hK => ?_⟩; refine hw_sto (v := .slice A1 (rs'.length + 1) c1) (by kernel_rfl) rfl rfl rfl H (.s .z) (Nat.le_of_ble_eq_true rfl) rfl (fun w1 H => hK _ _ ⟨[_, _, _, _], H⟩ ?_); clear hK K; (try simp only [List.set_cons_succ, List.set_cons_zero] at H); go_frame; have hS : HpW _ _ w1 := ⟨[_, _, _, _], H⟩); refine wpAnyH_done (by kernel_rfl) ?_ _; clear hS)
            (replace H := H.tail; rw [mg_app t rs' X y Ar cr By dy A1 c1, rw_app rs' X A1 c1] at H; replace H := (H.sh4).rot2.tail)
            (go_wp2_with (first | (fail)); go_roundw; (case rel => rw [hR0]; exact ⟨j, _, _, A1, c1, rfl, (by rw [List.length_append]; simp only [List.length_cons, List.length_nil]; omega), HQ1.out, HQ2.out, H⟩); (case measure => show ((j : Int)).toNat < ((j : Int) + 1).toNat; omega))
        · have b4 : (st != 4) = true := by simp [h4]
          by_cases h2 : st = 2
          · subst h2
            obtain ⟨X, hX⟩ : ∃ X, (⟨ix, 2, r, p, e⟩ : Rp) = X := ⟨_, rfl⟩
            have HQ1 : Hid (repsP l K s1 = repsP l j x5) := Lib.hid (by rw [HQP2.out, HRP.out, if_neg h4, if_pos rfl])
            have HQ2 : Hid (rs ++ repsV l K s1 = (rs' ++ [X]) ++ repsV l j x5) := Lib.hid (by rw [HQV2.out, HRP.out, HRV.out, if_neg h4, if_neg h4, if_neg h4, if_pos rfl, if_pos rfl, ← hX])
            clear HQP2 HQV2 HRP HRV h4
            go_wp2_with (first | ((with_reducible refine Hp.allo (ty := 55) H ?_); refine ⟨rfl, ?_⟩; refine ⟨_, z_look rfl, ?_⟩; (clear H; intro g8 w1 H); (replace H := H.rot2); go_frame) | ((with_reducible refine Hp.ld H ?_); refine ⟨rfl, ?_⟩; refine ⟨c_look rfl, ?_⟩; refine ⟨_, _, rfl, ?_⟩; (first | refine ⟨_, _, _, .z, ?_⟩ | refine ⟨_, _, _, .s .z, ?_⟩ | refine ⟨_, _, _, .s (.s .z), ?_⟩); refine ⟨_, rfl, ?_⟩; go_frame) | ((with_reducible refine Hp.stv H ?_); refine ⟨rfl, ?_⟩; refine ⟨c_look rfl, ?_⟩; (first | refine ⟨.bool _, rfl, ?_⟩ | refine ⟨.int _ _, rfl, ?_⟩ | refine ⟨.string _, rfl, ?_⟩ | refine ⟨.slice _ _ _, rfl, ?_⟩ | refine ⟨.pointer _, rfl, ?_⟩); refine ⟨rfl, _, _, rfl, ?_⟩; (first | refine ⟨_, _, _, .z, ?_⟩ | refine ⟨_, _, _, .s .z, ?_⟩ | refine ⟨_, _, _, .s (.s .z), ?_⟩); refine ⟨⟨_, rfl⟩, ?_⟩; (clear H; intro w1 H; simp only [List.set] at H); go_frame) | ((with_reducible refine Hp.sta H ?_); refine ⟨rfl, ?_⟩; refine ⟨_, s_look rfl, ?_⟩; refine ⟨_, rfl, _, rfl, rfl, ?_⟩; (first | refine ⟨_, _, _, .z, ?_⟩ | refine ⟨_, _, _, .s .z, ?_⟩ | refine ⟨_, _, _, .s (.s .z), ?_⟩); refine ⟨rfl, rfl, ?_⟩; (clear H; intro w1 H; simp only [List.set] at H); go_frame) | ((with_reducible refine Hp.bdl (t := 55) (parts := [_]) H ?_); refine ⟨rfl, _, b_rp1 _, ?_⟩; go_frame) | ((with_reducible refine (num_w HS1.out HIX.out A c g w0 _ _ hr hc hm H).mono ?_); rintro _ w1 ⟨rfl, HQ⟩; replace H := HQ; clear HQ) | ((with_reducible refine (num_w HS2.out HST.out A c g w0 _ _ hr hc hm H).mono ?_); rintro _ w1 ⟨rfl, HQ⟩; replace H := HQ; clear HQ) | ((with_reducible refine (bal_w HS4.out HR.out HP.out A c g w0 _ _ hr hc hm H).mono ?_); rintro _ w1 ⟨rfl, HQ⟩; replace H := HQ; clear HQ) | ((with_reducible refine (ent_w HS5.out HEN.out A c g w0 _ _ hr hc hm H).mono ?_); rintro _ w1 ⟨rfl, HQ⟩; replace H := HQ; clear HQ) | ((with_reducible refine Hp.str H ?_); refine ⟨rfl, ?_⟩; refine ⟨_, s_look rfl, ?_⟩; refine ⟨_, _, rfl, baC r p, rfl, rfl, ?_⟩; (first | refine ⟨_, _, _, .z, ?_⟩ | refine ⟨_, _, _, .s .z, ?_⟩ | refine ⟨_, _, _, .s (.s .z), ?_⟩); refine ⟨rfl, rpC ⟨ix, 2, r, p, en0⟩, rfl, _, rfl, Nat.le_of_ble_eq_true rfl, ?_⟩; (clear H; intro w1 H; simp only [List.set] at H); go_frame) | ((with_reducible refine Hp.str H ?_); refine ⟨rfl, ?_⟩; refine ⟨_, s_look rfl, ?_⟩; refine ⟨_, _, rfl, enC e, rfl, rfl, ?_⟩; (first | refine ⟨_, _, _, .z, ?_⟩ | refine ⟨_, _, _, .s .z, ?_⟩ | refine ⟨_, _, _, .s (.s .z), ?_⟩); refine ⟨rfl, rpC ⟨ix, 2, r, p, e⟩, rfl, _, rfl, Nat.le_of_ble_eq_true rfl, ?_⟩; (clear H; intro w1 H; simp only [List.set] at H); go_frame))
            replace H : Hp w0 w1 (rdI g A l.length c x5 :: .blk g8 55 (rpC ⟨ix, 2, r, p, e⟩) :: mgI gm t rs' y Ar cr By dy :: rwI Ar cr rs' :: L) := H
            rw [hX] at H
            (replace H := H.sh4; refine hw_start [_, _, _] (_ :: L) H (by kernel_rfl) (fun w1 H => ?_); have hS : HpW _ _ w1 := ⟨[_, _, _], H⟩; simp only [List.cons_append, List.nil_append] at H; (refine hw_take hS 0 (by decide +kernel) (by decide +kernel) (by decide +kernel) ⟨_, rfl, rfl, ?_, ?_, fun _ _ _ h => h, ?_⟩; rotate_left; (intro w _; go_simp; try with_reducible rfl); go_frame); (refine hw_take hS 1 (by decide +kernel) (by decide +kernel) (by decide +kernel) ⟨_, rfl, rfl, ?_, ?_, fun _ _ _ h => h, ?_⟩; rotate_left; (intro w _; go_simp; try with_reducible rfl); go_frame); (refine hw_take hS 2 (by decide +kernel) (by decide +kernel) (by decide +kernel) ⟨_, rfl, rfl, ?_, ?_, fun _ _ _ h => h, ?_⟩; rotate_left; (intro w _; go_simp; try with_reducible rfl); go_frame); (refine hw_take hS 3 (by decide +kernel) (by decide +kernel) (by decide +kernel) ⟨_, rfl, rfl, ?_, ?_, fun _ _ _ h => h, ?_⟩; rotate_left; (intro w _; go_simp; try with_reducible rfl); go_frame); (refine hw_take hS 5 (by decide +kernel) (by decide +kernel) (by decide +kernel) ⟨_, rfl, rfl, _, fun w h => ex_load rfl rfl (hw_lda (by kernel_rfl) s_Report .z rfl w h), fun _ _ _ h => h, ?_⟩; go_frame); clear hS)
            refine hw_two 4 6 (by decide +kernel) ⟨_, rfl, rfl, fun K hK => ?_⟩ ⟨_, rfl, rfl, fun K hK => ?_⟩
            · (refine hw_value (v := .slice Ar rs'.length cr) (ex_load rfl rfl (run_loadAt_cell (oneT_c (by kernel_rfl)) (H.c 0 rfl 25 rfl))) ?_; refine hK _ _ ⟨[_, _, _], H⟩ ?_; clear hK K; go_frame; have hS : HpW _ _ _ := ⟨[_, _, _], H⟩)
              clear hS
              (refine hw_one 6 (by decide +kernel) ⟨_, rfl, rfl, fun K hK => ?_⟩)
              (refine hw_bsl1 rfl rps_u rp_info2 rfl rfl rfl rfl H (fun gb w1 H => ?_); refine hK _ _ ⟨[_, _, _, _], H⟩ ?_; clear hK K; go_frame; have hS : HpW _ _ _ := ⟨[_, _, _, _], H⟩)
              (clear hS; (refine hw_one 7 (by decide +kernel) ⟨_, rfl, rfl, fun K hK => ?_⟩); (refine hw_appRow rfl rfl rfl rps_u rp_info rfl rfl rfl H 2 0 rfl rfl rfl (rpC_one _) hql (fun A1 c1 w1 H => ?_); (try simp only [List.set_cons_succ, List.set_cons_zero] at H); refine hK _ _ ⟨[_, _, _, _], H⟩ ?_; clear hK K; go_frame; have hS : HpW _ _ _ := ⟨[_, _, _, _], H⟩); (refine hw_take hS 8 (by decide +kernel) (by decide +kernel) (by decide +kernel) ⟨_, rfl, rfl, ?_, ?_, fun _ _ _ h => h, ?_⟩; rotate_left; (intro w _; go_simp; try with_reducible rfl); go_frame); (refine hw_take hS 9 (by decide +kernel) (by decide +kernel) (by decide +kernel) ⟨_, rfl, rfl, ?_, ?_, fun _ _ _ h => h, ?_⟩; rotate_left; (intro w _; go_simp; try with_reducible rfl); go_frame); clear hS; (refine hw_one 10 (by decide +kernel) ⟨_, rfl, rfl, fun K hK => ?_⟩; refine hw_sto (v := .slice A1 (rs'.length + 1) c1) (by kernel_rfl) rfl rfl rfl H (.s .z) (Nat.le_of_ble_eq_true rfl) rfl (fun w1 H => hK _ _ ⟨[_, _, _, _], H⟩ ?_); clear hK K; (try simp only [List.set_cons_succ, List.set_cons_zero] at H); go_frame; have hS : HpW _ _ w1 := ⟨[_, _, _, _], H⟩); refine wpAnyH_done (by kernel_rfl) ?_ _; clear hS)
              (replace H := H.tail; rw [mg_app t rs' X y Ar cr By dy A1 c1, rw_app rs' X A1 c1] at H; replace H := (H.sh4).rot2.tail)
              (go_wp2_with (first | (fail)); go_roundw; (case rel => rw [hR0]; exact ⟨j, _, _, A1, c1, rfl, (by rw [List.length_append]; simp only [List.length_cons, List.length_nil]; omega), HQ1.out, HQ2.out, H⟩); (case measure => show ((j : Int)).toNat < ((j : Int) + 1).toNat; omega))
            · (refine hw_bsl1 rfl rps_u rp_info2 rfl rfl rfl rfl H (fun gb w1 H => ?_); refine hK _ _ ⟨[_, _, _, _], H⟩ ?_; clear hK K; go_frame; have hS : HpW _ _ _ := ⟨[_, _, _, _], H⟩)
              clear hS
              (refine hw_one 4 (by decide +kernel) ⟨_, rfl, rfl, fun K hK => ?_⟩)
              (refine hw_value (v := .slice Ar rs'.length cr) (ex_load rfl rfl (run_loadAt_cell (oneT_c (by kernel_rfl)) (H.c 1 rfl 25 rfl))) ?_; refine hK _ _ ⟨[_, _, _, _], H⟩ ?_; clear hK K; go_frame; have hS : HpW _ _ _ := ⟨[_, _, _, _], H⟩)
              (clear hS; (refine hw_one 7 (by decide +kernel) ⟨_, rfl, rfl, fun K hK => ?_⟩); (refine hw_appRow rfl rfl rfl rps_u rp_info rfl rfl rfl H 2 0 rfl rfl rfl (rpC_one _) hql (fun A1 c1 w1 H => ?_); (try simp only [List.set_cons_succ, List.set_cons_zero] at H); refine hK _ _ ⟨[_, _, _, _], H⟩ ?_; clear hK K; go_frame; have hS : HpW _ _ _ := ⟨[_, _, _, _], H⟩); (refine hw_take hS 8 (by decide +kernel) (by decide +kernel) (by decide +kernel) ⟨_, rfl, rfl, ?_, ?_, fun _ _ _ h => h, ?_⟩; rotate_left; (intro w _; go_simp; try with_reducible rfl); go_frame); (refine hw_take hS 9 (by decide +kernel) (by decide +kernel) (by decide +kernel) ⟨_, rfl, rfl, ?_, ?_, fun _ _ _ h => h, ?_⟩; rotate_left; (intro w _; go_simp; try with_reducible rfl); go_frame); clear hS; (refine hw_one 10 (by decide +kernel) ⟨_, rfl, rfl, fun K hK => ?_⟩; refine hw_sto (v := .slice A1 (rs'.length + 1) c1) (by kernel_rfl) rfl rfl rfl H (.s .z) (Nat.le_of_ble_eq_true rfl) rfl (fun w1 H => hK _ _ ⟨[_, _, _, _], H⟩ ?_); clear hK K; (try simp only [List.set_cons_succ, List.set_cons_zero] at H); go_frame; have hS : HpW _ _ w1 := ⟨[_, _, _, _], H⟩); refine wpAnyH_done (by kernel_rfl) ?_ _; clear hS)
              (replace H := H.tail; rw [mg_app t rs' X y Ar cr By dy A1 c1, rw_app rs' X A1 c1] at H; replace H := (H.sh4).rot2.tail)
              (go_wp2_with (first | (fail)); go_roundw; (case rel => rw [hR0]; exact ⟨j, _, _, A1, c1, rfl, (by rw [List.length_append]; simp only [List.length_cons, List.length_nil]; omega), HQ1.out, HQ2.out, H⟩); (case measure => show ((j : Int)).toNat < ((j : Int) + 1).toNat; omega))
          · have b2 : (st == 2) = false := beq_eq_false_iff_ne.mpr h2
            obtain ⟨X, hX⟩ : ∃ X, (⟨ix, st, r, p, en0⟩ : Rp) = X := ⟨_, rfl⟩
            have HQ1 : Hid (repsP l K s1 = repsP l j x4) := Lib.hid (by rw [HQP2.out, HRP.out, if_neg h4, if_neg h2])
            have HQ2 : Hid (rs ++ repsV l K s1 = (rs' ++ [X]) ++ repsV l j x4) := Lib.hid (by rw [HQV2.out, HRP.out, HRV.out, if_neg h4, if_neg h4, if_neg h4, if_neg h2, if_neg h2, ← hX])
            clear HQP2 HQV2 HRP HRV h4 h2
            go_wp2_with (first | ((with_reducible refine Hp.allo (ty := 55) H ?_); refine ⟨rfl, ?_⟩; refine ⟨_, z_look rfl, ?_⟩; (clear H; intro g8 w1 H); (replace H := H.rot2); go_frame) | ((with_reducible refine Hp.ld H ?_); refine ⟨rfl, ?_⟩; refine ⟨c_look rfl, ?_⟩; refine ⟨_, _, rfl, ?_⟩; (first | refine ⟨_, _, _, .z, ?_⟩ | refine ⟨_, _, _, .s .z, ?_⟩ | refine ⟨_, _, _, .s (.s .z), ?_⟩); refine ⟨_, rfl, ?_⟩; go_frame) | ((with_reducible refine Hp.stv H ?_); refine ⟨rfl, ?_⟩; refine ⟨c_look rfl, ?_⟩; (first | refine ⟨.bool _, rfl, ?_⟩ | refine ⟨.int _ _, rfl, ?_⟩ | refine ⟨.string _, rfl, ?_⟩ | refine ⟨.slice _ _ _, rfl, ?_⟩ | refine ⟨.pointer _, rfl, ?_⟩); refine ⟨rfl, _, _, rfl, ?_⟩; (first | refine ⟨_, _, _, .z, ?_⟩ | refine ⟨_, _, _, .s .z, ?_⟩ | refine ⟨_, _, _, .s (.s .z), ?_⟩); refine ⟨⟨_, rfl⟩, ?_⟩; (clear H; intro w1 H; simp only [List.set] at H); go_frame) | ((with_reducible refine Hp.sta H ?_); refine ⟨rfl, ?_⟩; refine ⟨_, s_look rfl, ?_⟩; refine ⟨_, rfl, _, rfl, rfl, ?_⟩; (first | refine ⟨_, _, _, .z, ?_⟩ | refine ⟨_, _, _, .s .z, ?_⟩ | refine ⟨_, _, _, .s (.s .z), ?_⟩); refine ⟨rfl, rfl, ?_⟩; (clear H; intro w1 H; simp only [List.set] at H); go_frame) | ((with_reducible refine Hp.bdl (t := 55) (parts := [_]) H ?_); refine ⟨rfl, _, b_rp1 _, ?_⟩; go_frame) | ((with_reducible refine (num_w HS1.out HIX.out A c g w0 _ _ hr hc hm H).mono ?_); rintro _ w1 ⟨rfl, HQ⟩; replace H := HQ; clear HQ) | ((with_reducible refine (num_w HS2.out HST.out A c g w0 _ _ hr hc hm H).mono ?_); rintro _ w1 ⟨rfl, HQ⟩; replace H := HQ; clear HQ) | ((with_reducible refine (bal_w HS4.out HR.out HP.out A c g w0 _ _ hr hc hm H).mono ?_); rintro _ w1 ⟨rfl, HQ⟩; replace H := HQ; clear HQ) | ((with_reducible refine Hp.str H ?_); refine ⟨rfl, ?_⟩; refine ⟨_, s_look rfl, ?_⟩; refine ⟨_, _, rfl, baC r p, rfl, rfl, ?_⟩; (first | refine ⟨_, _, _, .z, ?_⟩ | refine ⟨_, _, _, .s .z, ?_⟩ | refine ⟨_, _, _, .s (.s .z), ?_⟩); refine ⟨rfl, rpC ⟨ix, st, r, p, en0⟩, rfl, _, rfl, Nat.le_of_ble_eq_true rfl, ?_⟩; (clear H; intro w1 H; simp only [List.set] at H); go_frame))
            replace H : Hp w0 w1 (rdI g A l.length c x4 :: .blk g8 55 (rpC ⟨ix, st, r, p, en0⟩) :: mgI gm t rs' y Ar cr By dy :: rwI Ar cr rs' :: L) := H
            rw [hX] at H
            (replace H := H.sh4; refine hw_start [_, _, _] (_ :: L) H (by kernel_rfl) (fun w1 H => ?_); have hS : HpW _ _ w1 := ⟨[_, _, _], H⟩; simp only [List.cons_append, List.nil_append] at H; (refine hw_take hS 0 (by decide +kernel) (by decide +kernel) (by decide +kernel) ⟨_, rfl, rfl, ?_, ?_, fun _ _ _ h => h, ?_⟩; rotate_left; (intro w _; go_simp; try with_reducible rfl); go_frame); (refine hw_take hS 1 (by decide +kernel) (by decide +kernel) (by decide +kernel) ⟨_, rfl, rfl, ?_, ?_, fun _ _ _ h => h, ?_⟩; rotate_left; (intro w _; go_simp; try with_reducible rfl); go_frame); (refine hw_take hS 2 (by decide +kernel) (by decide +kernel) (by decide +kernel) ⟨_, rfl, rfl, ?_, ?_, fun _ _ _ h => h, ?_⟩; rotate_left; (intro w _; go_simp; try with_reducible rfl); go_frame); (refine hw_take hS 3 (by decide +kernel) (by decide +kernel) (by decide +kernel) ⟨_, rfl, rfl, ?_, ?_, fun _ _ _ h => h, ?_⟩; rotate_left; (intro w _; go_simp; try with_reducible rfl); go_frame); (refine hw_take hS 5 (by decide +kernel) (by decide +kernel) (by decide +kernel) ⟨_, rfl, rfl, _, fun w h => ex_load rfl rfl (hw_lda (by kernel_rfl) s_Report .z rfl w h), fun _ _ _ h => h, ?_⟩; go_frame); clear hS)
            refine hw_two 4 6 (by decide +kernel) ⟨_, rfl, rfl, fun K hK => ?_⟩ ⟨_, rfl, rfl, fun K hK => ?_⟩
            · (refine hw_value (v := .slice Ar rs'.length cr) (ex_load rfl rfl (run_loadAt_cell (oneT_c (by kernel_rfl)) (H.c 0 rfl 25 rfl))) ?_; refine hK _ _ ⟨[_, _, _], H⟩ ?_; clear hK K; go_frame; have hS : HpW _ _ _ := ⟨[_, _, _], H⟩)
              clear hS
              (refine hw_one 6 (by decide +kernel) ⟨_, rfl, rfl, fun K hK => ?_⟩)
              (refine hw_bsl1 rfl rps_u rp_info2 rfl rfl rfl rfl H (fun gb w1 H => ?_); refine hK _ _ ⟨[_, _, _, _], H⟩ ?_; clear hK K; go_frame; have hS : HpW _ _ _ := ⟨[_, _, _, _], H⟩)
              (clear hS; (refine hw_one 7 (by decide +kernel) ⟨_, rfl, rfl, fun K hK => ?_⟩); (refine hw_appRow rfl rfl rfl rps_u rp_info rfl rfl rfl H 2 0 rfl rfl rfl (rpC_one _) hql (fun A1 c1 w1 H => ?_); (try simp only [List.set_cons_succ, List.set_cons_zero] at H); refine hK _ _ ⟨[_, _, _, _], H⟩ ?_; clear hK K; go_frame; have hS : HpW _ _ _ := ⟨[_, _, _, _], H⟩); (refine hw_take hS 8 (by decide +kernel) (by decide +kernel) (by decide +kernel) ⟨_, rfl, rfl, ?_, ?_, fun _ _ _ h => h, ?_⟩; rotate_left; (intro w _; go_simp; try with_reducible rfl); go_frame); (refine hw_take hS 9 (by decide +kernel) (by decide +kernel) (by decide +kernel) ⟨_, rfl, rfl, ?_, ?_, fun _ _ _ h => h, ?_⟩; rotate_left; (intro w _; go_simp; try with_reducible rfl); go_frame); clear hS; (refine hw_one 10 (by decide +kernel) ⟨_, rfl, rfl, fun K hK => ?_⟩; refine hw_sto (v := .slice A1 (rs'.length + 1) c1) (by kernel_rfl) rfl rfl rfl H (.s .z) (Nat.le_of_ble_eq_true rfl) rfl (fun w1 H => hK _ _ ⟨[_, _, _, _], H⟩ ?_); clear hK K; (try simp only [List.set_cons_succ, List.set_cons_zero] at H); go_frame; have hS : HpW _ _ w1 := ⟨[_, _, _, _], H⟩); refine wpAnyH_done (by kernel_rfl) ?_ _; clear hS)
              (replace H := H.tail; rw [mg_app t rs' X y Ar cr By dy A1 c1, rw_app rs' X A1 c1] at H; replace H := (H.sh4).rot2.tail)
              (go_wp2_with (first | (fail)); go_roundw; (case rel => rw [hR0]; exact ⟨j, _, _, A1, c1, rfl, (by rw [List.length_append]; simp only [List.length_cons, List.length_nil]; omega), HQ1.out, HQ2.out, H⟩); (case measure => show ((j : Int)).toNat < ((j : Int) + 1).toNat; omega))
            · (refine hw_bsl1 rfl rps_u rp_info2 rfl rfl rfl rfl H (fun gb w1 H => ?_); refine hK _ _ ⟨[_, _, _, _], H⟩ ?_; clear hK K; go_frame; have hS : HpW _ _ _ := ⟨[_, _, _, _], H⟩)
              clear hS
              (refine hw_one 4 (by decide +kernel) ⟨_, rfl, rfl, fun K hK => ?_⟩)
              (refine hw_value (v := .slice Ar rs'.length cr) (ex_load rfl rfl (run_loadAt_cell (oneT_c (by kernel_rfl)) (H.c 1 rfl 25 rfl))) ?_; refine hK _ _ ⟨[_, _, _, _], H⟩ ?_; clear hK K; go_frame; have hS : HpW _ _ _ := ⟨[_, _, _, _], H⟩)
              (clear hS; (refine hw_one 7 (by decide +kernel) ⟨_, rfl, rfl, fun K hK => ?_⟩); (refine hw_appRow rfl rfl rfl rps_u rp_info rfl rfl rfl H 2 0 rfl rfl rfl (rpC_one _) hql (fun A1 c1 w1 H => ?_); (try simp only [List.set_cons_succ, List.set_cons_zero] at H); refine hK _ _ ⟨[_, _, _, _], H⟩ ?_; clear hK K; go_frame; have hS : HpW _ _ _ := ⟨[_, _, _, _], H⟩); (refine hw_take hS 8 (by decide +kernel) (by decide +kernel) (by decide +kernel) ⟨_, rfl, rfl, ?_, ?_, fun _ _ _ h => h, ?_⟩; rotate_left; (intro w _; go_simp; try with_reducible rfl); go_frame); (refine hw_take hS 9 (by decide +kernel) (by decide +kernel) (by decide +kernel) ⟨_, rfl, rfl, ?_, ?_, fun _ _ _ h => h, ?_⟩; rotate_left; (intro w _; go_simp; try with_reducible rfl); go_frame); clear hS; (refine hw_one 10 (by decide +kernel) ⟨_, rfl, rfl, fun K hK => ?_⟩; refine hw_sto (v := .slice A1 (rs'.length + 1) c1) (by kernel_rfl) rfl rfl rfl H (.s .z) (Nat.le_of_ble_eq_true rfl) rfl (fun w1 H => hK _ _ ⟨[_, _, _, _], H⟩ ?_); clear hK K; (try simp only [List.set_cons_succ, List.set_cons_zero] at H); go_frame; have hS : HpW _ _ w1 := ⟨[_, _, _, _], H⟩); refine wpAnyH_done (by kernel_rfl) ?_ _; clear hS)
              (replace H := H.tail; rw [mg_app t rs' X y Ar cr By dy A1 c1, rw_app rs' X A1 c1] at H; replace H := (H.sh4).rot2.tail)
              (go_wp2_with (first | (fail)); go_roundw; (case rel => rw [hR0]; exact ⟨j, _, _, A1, c1, rfl, (by rw [List.length_append]; simp only [List.length_cons, List.length_nil]; omega), HQ1.out, HQ2.out, H⟩); (case measure => show ((j : Int)).toNat < ((j : Int) + 1).toNat; omega))
      · have he2 : (s.e == 0) = false := beq_eq_false_iff_ne.mpr he
        have hP : repsP l (j + 1) s = s := by show (if s.e = 0 then _ else _) = _; rw [if_neg he]
        have hV : repsV l (j + 1) s = [] := by show (if s.e = 0 then _ else _) = _; rw [if_neg he]
        have hfin : (⟨repsP l K s1, t, rs ++ repsV l K s1, y⟩ : St) = ⟨s, t, rs', y⟩ := by rw [HQP.out, HQV.out, hP, hV, List.append_nil]
        have HFI := Lib.hid hfin
        clear hfin HQP HQV hP hV he
        go_wp2_with (first | ((with_reducible refine Hp.ld H ?_); refine ⟨rfl, ?_⟩; refine ⟨c_look rfl, ?_⟩; refine ⟨_, _, rfl, ?_⟩; (first | refine ⟨_, _, _, .z, ?_⟩ | refine ⟨_, _, _, .s .z, ?_⟩ | refine ⟨_, _, _, .s (.s .z), ?_⟩); refine ⟨_, rfl, ?_⟩; go_frame))
        go_end0
        refine ⟨Ar, cr, rfl, ?_⟩
        rw [HFI.out]
        exact H
end Go.Proofs.YtajgikjmoeemnaaDoor
