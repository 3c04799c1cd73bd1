/-
  THE WALK OF sextonref20.Print. (Printed by wip/bin/genmsgz.py.)
-/
import Derived.Test.YtajgikjmoeemnaaDoorMsgQ
import Derived.Test.YtajgikjmoeemnaaDoorMsgY
import Derived.Test.YtajgikjmoeemnaaDoorMsgO
namespace Go.Proofs.YtajgikjmoeemnaaDoor
set_option maxRecDepth 100000
open Go.RowKit
set_option linter.unusedVariables false
set_option linter.unusedSimpArgs false
section
variable {a : Act} {w0 w : World} {Q : Exit → Act → World → Prop} {L L0 : List Item} {oi : Oper} {K : Act → World → Prop} {x s : Operand}
/-- bytes as a slice -/
theorem hw_bslB {n : Nat} {parts : List (Nat × Operand)} {l : List UInt8} (ho : oi.op = .buildSlice 32 n parts.toArray) (hn : Nat.ble n 1000 = true) (hn1 : Nat.ble 1 n = true) (hp : (parts.map fun x => (x.1, a.eval x.2)) = nums 0 (bvs l)) (hl : l.length = n) (H : Hp w0 w L)
    (h : ∀ g w', Hp w0 w' (.bytes (some ⟨g, 0, none⟩) n l :: L) → K (a.put oi.dst (.slice (some ⟨g, 0, none⟩) n n)) w') : oi.wp Tryd.prog a w K Q := by
  have hn := Nat.le_of_ble_eq_true hn
  have hn1 := Nat.le_of_ble_eq_true hn1
  cases hi : Tryd.prog.info? 5 with
  | none => have := u8_i; rw [hi] at this; cases this
  | some i =>
    have hu := u8_i
    rw [hi] at hu
    simp only [Option.map_some, Option.some.injEq, Prod.mk.injEq] at hu
    have hr := run_bsl (P := Tryd.prog) w u8_slice hi hu.1 hu.2 n (by omega) (by omega) (parts.map fun x => (x.1, a.eval x.2)).toArray (bvs l) (by
      have hf := fill_nums (bvs l) 0 ((Array.range (n * 1)).map (fun k => (Value.int .u8 0).cells[k % (Value.int .u8 0).cells.size]!)).toList (List.all_eq_true.2 (bvs_one l)) (by simp [bvs_length, hl])
      rw [List.take_zero, List.nil_append] at hf
      rw [show (parts.map fun x => (x.1, a.eval x.2)).toArray.toList = nums 0 (bvs l) from hp, ← hf])
    have hown : Own (w.alloc (.cells (bvs l).toArray 5)) w0.heap.size (some ⟨w.heap.size, 0, none⟩) n l := own_lit w _ l _ rfl H.size (by unfold maxLen; omega) n hl.symm
    have H1 : Hp w0 (w.alloc (.cells (bvs l).toArray 5)) (.bytes (some ⟨w.heap.size, 0, none⟩) n l :: L) :=
      H.new (H.below.alloc H.size _) (by simp) (fun k hk => Below.heap_alloc w _ k hk) hown (fun k hk => by simp [Item.foot] at hk; subst hk; simp)
    have he : (execOp a.eval oi).run Tryd.prog w = .ok (.value (.slice (some ⟨w.heap.size, 0, none⟩) n n)) (w.alloc (.cells (bvs l).toArray 5)) := by
      have e : (parts.toArray.map fun x => (x.1, a.eval x.2)) = (parts.map fun x => (x.1, a.eval x.2)).toArray := by simp
      simp only [execOp, ho, e]
      simp [hr]
    exact hw_turn he (h _ _ H1)
end
theorem cf_who (args : Array Value) (w : World) : (callFunc 22 args).run Tryd.prog w = .ok (.enter 22 args) w := by kernel_rfl
theorem puthd {a b c : Int} {hd : List UInt8} (h : [UInt8.ofNat a.toNat, UInt8.ofNat b.toNat, UInt8.ofNat c.toNat] = hd) (a0 : 0 ≤ a ∧ a < 256) (b0 : 0 ≤ b ∧ b < 256) (c0 : 0 ≤ c ∧ c < 256) : (putL 1 a ++ putL 1 b) ++ putL 1 c = hd := by
  rw [put1 a0.1 a0.2, put1 b0.1 b0.2, put1 c0.1 c0.2]
  exact h
set_option maxHeartbeats 8000000 in
theorem mrprint_no (m : Mg) (rs : List Rp) (l : List UInt8) (n : Int) (w : World) (hN : MgN m) (hR : MgR w m rs l) (hn1 : -9223372036854775808 ≤ n) (hn2 : n ≤ 9223372036854775807) (hmay : mayM m rs l n = false) : Calls Tryd.prog 11 #[.agg (mgC m).toArray, .int .i64 n] w (RetBI w (printL m rs l n) (printE m rs l n)) := by
  have H := Hp.nil w
  unfold printL printE
  rw [hmay]
  go_enter Tryd.func11, Tryd.ntmps11; go_wp2_with (first | ((with_reducible refine Hp.box H ?_); (first | refine ⟨rfl, mgC m, rfl, ?_⟩); (clear H; intro gm w1 H); go_frame) | ((with_reducible refine Hp.lda H ?_); refine ⟨rfl, by kernel_rfl, ?_⟩; refine ⟨_, s_look rfl, ?_⟩; refine ⟨_, rfl, ?_⟩; ((repeat ((fail_if_success refine ⟨_, _, _, .z, ?_⟩); refine hs ?_)); refine ⟨_, _, _, .z, ?_⟩); refine ⟨rfl, ?_⟩; go_frame) | ((with_reducible refine (rmaym_v hmay hN (hR.below H.below) hn1 hn2).mono ?_); rintro _ w1 ⟨rfl, hb⟩; replace H := H.call hb; clear hb))
  go_ret2
  exact ⟨none, 0, rfl, Own.none_ _ _, H.below⟩
theorem ret_pair {A : Option Addr} {n m c : Nat} {e : Int} (h : n = m) : Ending.returned (.tuple #[.slice A n c, .int .i64 e]) = .returned (.tuple #[.slice A m c, .int .i64 e]) := by rw [h]
set_option maxHeartbeats 64000000 in
theorem mrprint_bal (m : Mg) (rs : List Rp) (l : List UInt8) (n : Int) (w : World) (hN : MgN m) (hR : MgR w m rs l) (hn1 : -9223372036854775808 ≤ n) (hn2 : n ≤ 9223372036854775807) (hmay : mayM m rs l n = true) (hB : hasB m.k = true) : Calls Tryd.prog 11 #[.agg (mgC m).toArray, .int .i64 n] w (RetBI w (printL m rs l n) (printE m rs l n)) := by
  have H := Hp.nil w
  unfold printL printE
  rw [hmay]
  obtain ⟨⟨e1, e2⟩, e3, e4⟩ := may_ends hmay
  obtain ⟨⟨i1, i2⟩, ⟨i3, i4⟩, ⟨i5, i6⟩, ⟨i7, i8⟩⟩ := may_nums hmay
  have hu := hN.uk
  have HW1 := Lib.hid (fun w => rwho_any m.fr w (by omega) (by omega))
  have HW2 := Lib.hid (fun w => rwho_any m.to w (by omega) (by omega))
  have hwb : ∀ i : Int, -4 ≤ i → i ≤ 6 → 0 ≤ whoN i ∧ whoN i < 256 := fun i h1 h2 => by unfold whoN; split <;> omega
  have hw1 := hwb m.fr e1 e2
  have hw2 := hwb m.to e3 e4
  obtain ⟨hd, hhd⟩ : ∃ hd : List UInt8, [UInt8.ofNat m.k.toNat, UInt8.ofNat (whoN m.fr).toNat, UInt8.ofNat (whoN m.to).toNat] = hd := ⟨_, rfl⟩
  have HDL : Hid (hd.length = 3) := Lib.hid (by rw [← hhd]; rfl)
  have hq : nums 0 [Value.int .u8 m.k, .int .u8 (whoN m.fr), .int .u8 (whoN m.to)] = nums 0 (bvs hd) := by
    rw [← hhd]
    show _ = nums 0 [Value.int .u8 ((UInt8.ofNat m.k.toNat).toNat : Int), .int .u8 ((UInt8.ofNat (whoN m.fr).toNat).toNat : Int), .int .u8 ((UInt8.ofNat (whoN m.to).toNat).toNat : Int)]
    rw [ofNat_toNat, ofNat_toNat, ofNat_toNat]
    have h1 : ((m.k.toNat % 256 : Nat) : Int) = m.k := by omega
    have h2 : (((whoN m.fr).toNat % 256 : Nat) : Int) = whoN m.fr := by omega
    have h3 : (((whoN m.to).toNat % 256 : Nat) : Int) = whoN m.to := by omega
    rw [h1, h2, h3]
  have HD := Lib.hid hq
  have HHD := Lib.hid (puthd hhd hu hw1 hw2)
  have HX7 := Lib.hid (fun w => rnum6 i1 (by omega : m.ix < 281474976710656) w)
  have HX8 := Lib.hid (fun w => rnum6 i3 (by omega : m.cm < 281474976710656) w)
  have HX9 := Lib.hid (fun w => rnum6 i5 (by omega : m.nc < 281474976710656) w)
  have HX10 := Lib.hid (fun w => rnum6 i7 (by omega : m.sq < 281474976710656) w)
  have m7 := putL_length6 6 m.ix
  have m8 := putL_length6 6 m.cm
  have m9 := putL_length6 6 m.nc
  have m10 := putL_length6 6 m.sq
  have me := bytesL_len m.e
  have HBA := Lib.hid (fun w => rbal20_any m.br m.bp w (by have := balM_bd (may_bal hmay hB); omega) (by have := balM_bd (may_bal hmay hB); omega) (by have := balM_bd (may_bal hmay hB); omega) (by have := balM_bd (may_bal hmay hB); omega))
  have hb0 : decide (0 < m.br) = true := decide_eq_true (by have := balM_bd (may_bal hmay hB); omega)
  have m3 := putL_length6 6 m.br
  have m4 := putL_length6 1 m.bp
  clear hq hhd hw1 hw2 hwb e1 e2 e3 e4 i1 i2 i3 i4 i5 i6 i7 i8 hu
  go_enter Tryd.func11, Tryd.ntmps11; go_wp2_with (first | ((with_reducible refine Hp.box H ?_); (first | refine ⟨rfl, mgC m, rfl, ?_⟩); (clear H; intro gm w1 H); go_frame) | ((with_reducible refine Hp.lda H ?_); refine ⟨rfl, by kernel_rfl, ?_⟩; refine ⟨_, s_look rfl, ?_⟩; refine ⟨_, rfl, ?_⟩; ((repeat ((fail_if_success refine ⟨_, _, _, .z, ?_⟩); refine hs ?_)); refine ⟨_, _, _, .z, ?_⟩); refine ⟨rfl, ?_⟩; go_frame) | ((with_reducible refine (rmaym_v hmay hN (hR.below H.below) hn1 hn2).mono ?_); rintro _ w1 ⟨rfl, hb⟩; replace H := H.call hb; clear hb))
  refine hw_start [] [_] H (by kernel_rfl) (fun w1 H => ?_); have hS : HpW w _ w1 := ⟨[], H⟩; simp only [List.nil_append] at H
  (refine hw_take hS 0 (by decide +kernel) (by decide +kernel) (by decide +kernel) ⟨_, rfl, rfl, ?_, ?_, fun _ _ _ h => h, ?_⟩; rotate_left; (intro w _; go_simp; try with_reducible rfl); go_frame); (refine hw_take hS 1 (by decide +kernel) (by decide +kernel) (by decide +kernel) ⟨_, rfl, rfl, _, fun w h => ex_load rfl rfl (hw_ld (by kernel_rfl) (.z) rfl w h), fun _ _ _ h => h, ?_⟩; go_frame); (refine hw_take hS 2 (by decide +kernel) (by decide +kernel) (by decide +kernel) ⟨_, rfl, rfl, ?_, ?_, fun _ _ _ h => h, ?_⟩; rotate_left; (intro w _; go_simp; try with_reducible rfl); go_frame); (refine hw_take hS 3 (by decide +kernel) (by decide +kernel) (by decide +kernel) ⟨_, rfl, rfl, _, fun w h => ex_load rfl rfl (hw_ld (by kernel_rfl) (.z) rfl w h), fun _ _ _ h => h, ?_⟩; go_frame); (refine hw_take hS 5 (by decide +kernel) (by decide +kernel) (by decide +kernel) ⟨_, rfl, rfl, ?_, ?_, fun _ _ _ h => h, ?_⟩; rotate_left; (intro w _; go_simp; try with_reducible rfl); go_frame); (refine hw_take hS 6 (by decide +kernel) (by decide +kernel) (by decide +kernel) ⟨_, rfl, rfl, _, fun w h => ex_load rfl rfl (hw_ld (by kernel_rfl) (.z) rfl w h), fun _ _ _ h => h, ?_⟩; go_frame)
  clear hS
  (refine hw_one 4 (by decide +kernel) ⟨_, rfl, rfl, fun K hK => ?_⟩)
  refine hw_callk (vs := [_]) (HW1.out _) cf_who rfl rfl rfl ?_; rintro e w' ⟨rfl, hb⟩; replace H := H.call hb; clear hb; refine ⟨_, rfl, ?_⟩; refine hK _ _ ⟨[], H⟩ ?_; clear hK K; go_frame; have hS : HpW _ _ _ := ⟨[], H⟩; clear hS
  (refine hw_one 7 (by decide +kernel) ⟨_, rfl, rfl, fun K hK => ?_⟩)
  refine hw_callk (vs := [_]) (HW2.out _) cf_who rfl rfl rfl ?_; rintro e w' ⟨rfl, hb⟩; replace H := H.call hb; clear hb; refine ⟨_, rfl, ?_⟩; refine hK _ _ ⟨[], H⟩ ?_; clear hK K; go_frame; have hS : HpW _ _ _ := ⟨[], H⟩; clear hS
  (refine hw_one 8 (by decide +kernel) ⟨_, rfl, rfl, fun K hK => ?_⟩); refine hw_bslB (parts := [_, _, _]) (l := hd) rfl rfl rfl HD.out HDL.out H (fun g3 w1 H => ?_); refine hK _ _ ⟨[_], H⟩ ?_; clear hK K; go_frame; have hS : HpW _ _ _ := ⟨[_], H⟩; (refine hw_take hS 9 (by decide +kernel) (by decide +kernel) (by decide +kernel) ⟨_, rfl, rfl, ?_, ?_, fun _ _ _ h => h, ?_⟩; rotate_left; (intro w _; go_simp; try with_reducible rfl); go_frame); refine wpAnyH_done (by kernel_rfl) ?_ _; clear hS
  clear HD HW1 HW2
  have hdl := HDL.out
  go_wp2_with (first | ((with_reducible refine Hp.ld H ?_); refine ⟨rfl, ?_⟩; refine ⟨c_look rfl, ?_⟩; refine ⟨_, _, rfl, ?_⟩; ((repeat ((fail_if_success refine ⟨_, _, _, .z, ?_⟩); refine hs ?_)); refine ⟨_, _, _, .z, ?_⟩); refine ⟨_, rfl, ?_⟩; go_frame) | ((with_reducible refine Hp.lds H ?_); refine ⟨rfl, by kernel_rfl, ?_⟩; refine ⟨_, s_look rfl, ?_⟩; refine ⟨_, _, rfl, ?_⟩; ((repeat ((fail_if_success refine ⟨_, _, _, .z, ?_⟩); refine hs ?_)); refine ⟨_, _, _, .z, ?_⟩); (first | refine ⟨baC m.br m.bp, rfl, rfl, ?_⟩ | refine ⟨enC m.e, rfl, rfl, ?_⟩ | refine ⟨opC m.ok m.o0 m.o1 m.o2, rfl, rfl, ?_⟩); go_frame) | ((with_reducible refine (HBA.out _).mono ?_); rintro _ w1 ⟨Ax, cx, rfl, hown, hb⟩; replace H := H.callOwn hb hown; clear hb hown) | (at_builtin; refine H.wlAppendBytes rfl _ _ rfl 1 _ _ _ _ (by rfl) rfl (by first | rfl | omega | (simp only [List.length_append, List.length_cons, List.length_nil]; first | done | omega)) _ _ _ _ (by rfl) (by first | rfl | omega | (simp only [List.length_append, List.length_cons, List.length_nil]; first | done | omega)) (H.o 0 rfl).rd (by first | omega | (simp only [List.length_append, List.length_cons, List.length_nil]; omega)) ?_; (clear H; intro Ay cy w1 H); simp only [List.set_cons_succ, List.set_cons_zero] at H; replace H := H.tail))
  refine hw_start [] [_, _] H (by kernel_rfl) (fun w1 H => ?_); have hS : HpW w _ w1 := ⟨[], H⟩; simp only [List.nil_append] at H
  (refine hw_take hS 0 (by decide +kernel) (by decide +kernel) (by decide +kernel) ⟨_, rfl, rfl, ?_, ?_, fun _ _ _ h => h, ?_⟩; rotate_left; (intro w _; go_simp; try with_reducible rfl); go_frame); (refine hw_take hS 1 (by decide +kernel) (by decide +kernel) (by decide +kernel) ⟨_, rfl, rfl, _, fun w h => ex_load rfl rfl (hw_ld (by kernel_rfl) (.s .z) rfl w h), fun _ _ _ h => h, ?_⟩; go_frame); (refine hw_take hS 3 (by decide +kernel) (by decide +kernel) (by decide +kernel) ⟨_, rfl, rfl, ?_, ?_, fun _ _ _ h => h, ?_⟩; rotate_left; (intro w _; go_simp; try with_reducible rfl); go_frame); (refine hw_take hS 4 (by decide +kernel) (by decide +kernel) (by decide +kernel) ⟨_, rfl, rfl, _, fun w h => ex_load rfl rfl (hw_ld (by kernel_rfl) (.s .z) rfl w h), fun _ _ _ h => h, ?_⟩; go_frame); (refine hw_take hS 6 (by decide +kernel) (by decide +kernel) (by decide +kernel) ⟨_, rfl, rfl, ?_, ?_, fun _ _ _ h => h, ?_⟩; rotate_left; (intro w _; go_simp; try with_reducible rfl); go_frame); (refine hw_take hS 7 (by decide +kernel) (by decide +kernel) (by decide +kernel) ⟨_, rfl, rfl, _, fun w h => ex_load rfl rfl (hw_ld (by kernel_rfl) (.s .z) rfl w h), fun _ _ _ h => h, ?_⟩; go_frame); (refine hw_take hS 9 (by decide +kernel) (by decide +kernel) (by decide +kernel) ⟨_, rfl, rfl, ?_, ?_, fun _ _ _ h => h, ?_⟩; rotate_left; (intro w _; go_simp; try with_reducible rfl); go_frame); (refine hw_take hS 10 (by decide +kernel) (by decide +kernel) (by decide +kernel) ⟨_, rfl, rfl, _, fun w h => ex_load rfl rfl (hw_ld (by kernel_rfl) (.s .z) rfl w h), fun _ _ _ h => h, ?_⟩; go_frame)
  clear hS
  (refine hw_one 2 (by decide +kernel) ⟨_, rfl, rfl, fun K hK => ?_⟩)
  refine hw_callB (vs := [_, _]) (HX7.out _) cf_num rfl rfl rfl H (fun A37 c37 w1 H => ?_)
  refine hK _ _ ⟨[_], H⟩ ?_; clear hK K; go_frame; have hS : HpW _ _ _ := ⟨[_], H⟩; clear hS
  (refine hw_one 5 (by decide +kernel) ⟨_, rfl, rfl, fun K hK => ?_⟩)
  refine hw_callB (vs := [_, _]) (HX8.out _) cf_num rfl rfl rfl H (fun A40 c40 w1 H => ?_)
  refine hK _ _ ⟨[_, _], H⟩ ?_; clear hK K; go_frame; have hS : HpW _ _ _ := ⟨[_, _], H⟩; clear hS
  (refine hw_one 8 (by decide +kernel) ⟨_, rfl, rfl, fun K hK => ?_⟩)
  refine hw_callB (vs := [_, _]) (HX9.out _) cf_num rfl rfl rfl H (fun A43 c43 w1 H => ?_)
  refine hK _ _ ⟨[_, _, _], H⟩ ?_; clear hK K; go_frame; have hS : HpW _ _ _ := ⟨[_, _, _], H⟩; clear hS
  (refine hw_one 11 (by decide +kernel) ⟨_, rfl, rfl, fun K hK => ?_⟩)
  refine hw_callB (vs := [_, _]) (HX10.out _) cf_num rfl rfl rfl H (fun A46 c46 w1 H => ?_)
  refine hK _ _ ⟨[_, _, _, _], H⟩ ?_; clear hK K; go_frame; have hS : HpW _ _ _ := ⟨[_, _, _, _], H⟩
  (refine hw_take hS 12 (by decide +kernel) (by decide +kernel) (by decide +kernel) ⟨_, rfl, rfl, ?_, ?_, fun _ _ _ h => h, ?_⟩; rotate_left; (intro w _; go_simp; try with_reducible rfl); go_frame); (refine hw_take hS 13 (by decide +kernel) (by decide +kernel) (by decide +kernel) ⟨_, rfl, rfl, ?_, ?_, fun _ _ _ h => h, ?_⟩; rotate_left; (intro w _; go_simp; try with_reducible rfl); go_frame); (refine hw_take hS 14 (by decide +kernel) (by decide +kernel) (by decide +kernel) ⟨_, rfl, rfl, ?_, ?_, fun _ _ _ h => h, ?_⟩; rotate_left; (intro w _; go_simp; try with_reducible rfl); go_frame); (refine hw_take hS 15 (by decide +kernel) (by decide +kernel) (by decide +kernel) ⟨_, rfl, rfl, ?_, ?_, fun _ _ _ h => h, ?_⟩; rotate_left; (intro w _; go_simp; try with_reducible rfl); go_frame)
  refine wpAnyH_done (by kernel_rfl) ?_ _
  clear hS
  replace H := H.pick (L' := [_, _, _, _, _, _]) [4, 3, 2, 1, 0, 5] (by decide) rfl
  clear HX7 HX8 HX9 HX10
  rcases kinds (may_parts hmay).1 with hk | hk | hk | hk | hk | hk | hk | hk | hk | hk | hk | hk | hk | hk | hk
  · exact absurd hB (by rw [hk]; decide)
  · exact absurd hB (by rw [hk]; decide)
  · have b1 : (m.k == 1) = false := by rw [hk]; rfl
    have b2 : (m.k == 2) = false := by rw [hk]; rfl
    have b3 : (m.k == 3) = true := by rw [hk]; rfl
    have b4 : (m.k == 4) = false := by rw [hk]; rfl
    have b5 : (m.k == 5) = false := by rw [hk]; rfl
    have b6 : (m.k == 6) = false := by rw [hk]; rfl
    have b7 : (m.k == 7) = false := by rw [hk]; rfl
    have b8 : (m.k == 8) = false := by rw [hk]; rfl
    have b9 : (m.k == 9) = false := by rw [hk]; rfl
    have b10 : (m.k == 10) = false := by rw [hk]; rfl
    have b11 : (m.k == 11) = false := by rw [hk]; rfl
    have b12 : (m.k == 12) = false := by rw [hk]; rfl
    have b13 : (m.k == 13) = false := by rw [hk]; rfl
    have b14 : (m.k == 14) = false := by rw [hk]; rfl
    have b15 : (m.k == 15) = false := by rw [hk]; rfl
    have HF : Hid (fieldsL (lets m.k) m rs l = (putL 6 m.br ++ putL 1 m.bp) ++ (putL 6 m.ix)) := Lib.hid (by rw [hk]; show fieldL 98 m rs l ++ (fieldL 105 m rs l ++ []) = _; rw [List.append_nil]; rfl)
    clear hk
    go_wp2_with (first | ((with_reducible refine Hp.ld H ?_); refine ⟨rfl, ?_⟩; refine ⟨c_look rfl, ?_⟩; refine ⟨_, _, rfl, ?_⟩; ((repeat ((fail_if_success refine ⟨_, _, _, .z, ?_⟩); refine hs ?_)); refine ⟨_, _, _, .z, ?_⟩); refine ⟨_, rfl, ?_⟩; go_frame) | ((with_reducible refine Hp.lds H ?_); refine ⟨rfl, by kernel_rfl, ?_⟩; refine ⟨_, s_look rfl, ?_⟩; refine ⟨_, _, rfl, ?_⟩; ((repeat ((fail_if_success refine ⟨_, _, _, .z, ?_⟩); refine hs ?_)); refine ⟨_, _, _, .z, ?_⟩); (first | refine ⟨baC m.br m.bp, rfl, rfl, ?_⟩ | refine ⟨enC m.e, rfl, rfl, ?_⟩ | refine ⟨opC m.ok m.o0 m.o1 m.o2, rfl, rfl, ?_⟩); go_frame) | ((with_reducible refine (rbytes_any m.e hN.se _).mono ?_); rintro _ w1 ⟨Ae, ce, rfl, hown, hb⟩; replace H := (H.callOwn hb hown).rot2; clear hb hown) | (at_builtin; refine H.wlAppendBytes rfl _ _ rfl 0 _ _ _ _ (by rfl) rfl (by first | rfl | omega | (simp only [List.length_append, List.length_cons, List.length_nil]; first | done | omega)) _ _ _ _ (by rfl) (by first | rfl | omega | (simp only [List.length_append, List.length_cons, List.length_nil]; first | done | omega)) (H.o 2 rfl).rd (by first | omega | (simp only [List.length_append, List.length_cons, List.length_nil]; omega)) ?_; (clear H; intro Ay cy w1 H); simp only [List.set_cons_succ, List.set_cons_zero] at H))
    go_ret2
    have hL : prL m rs l = hd ++ fieldsL (lets m.k) m rs l := by unfold prL; rw [HHD.out]
    rw [HF.out] at hL
    refine ⟨Ay, cy, ?_, ?_, H.below⟩
    · refine ret_pair ?_; rw [hL]; simp only [List.length_append, List.length_cons, List.length_nil, hdl]; first | done | omega
    · rw [hL]; simpa only [List.append_assoc, List.cons_append, List.nil_append, List.append_nil] using H.o 0 rfl
  · have b1 : (m.k == 1) = false := by rw [hk]; rfl
    have b2 : (m.k == 2) = false := by rw [hk]; rfl
    have b3 : (m.k == 3) = false := by rw [hk]; rfl
    have b4 : (m.k == 4) = true := by rw [hk]; rfl
    have b5 : (m.k == 5) = false := by rw [hk]; rfl
    have b6 : (m.k == 6) = false := by rw [hk]; rfl
    have b7 : (m.k == 7) = false := by rw [hk]; rfl
    have b8 : (m.k == 8) = false := by rw [hk]; rfl
    have b9 : (m.k == 9) = false := by rw [hk]; rfl
    have b10 : (m.k == 10) = false := by rw [hk]; rfl
    have b11 : (m.k == 11) = false := by rw [hk]; rfl
    have b12 : (m.k == 12) = false := by rw [hk]; rfl
    have b13 : (m.k == 13) = false := by rw [hk]; rfl
    have b14 : (m.k == 14) = false := by rw [hk]; rfl
    have b15 : (m.k == 15) = false := by rw [hk]; rfl
    have HF : Hid (fieldsL (lets m.k) m rs l = (putL 6 m.br ++ putL 1 m.bp) ++ (putL 6 m.ix ++ (putL 6 m.cm ++ ((putL 1 (rs.length : Int) ++ repsL rs))))) := Lib.hid (by rw [hk]; show fieldL 98 m rs l ++ (fieldL 122 m rs l ++ (fieldL 99 m rs l ++ (fieldL 108 m rs l ++ []))) = _; rw [List.append_nil]; rfl)
    have z1 := may_rs hmay hk
    have z2 := may_reps hmay
    have HRS : Hid (∀ w, RRp w m.rA rs → Calls Tryd.prog 28 #[.slice m.rA m.rn m.rc] w (RetB w (putL 1 (rs.length : Int) ++ repsL rs))) := Lib.hid (by rw [hR.n1]; exact fun w h => rreps_any m.rA m.rc rs n w h hR.ok z1 z2 (by rw [← hR.n1]; exact hR.le) hR.mx)
    have q0 := repsL_len rs
    have q1 := putL_length6 1 (rs.length : Int)
    clear hk
    go_wp2_with (first | ((with_reducible refine Hp.ld H ?_); refine ⟨rfl, ?_⟩; refine ⟨c_look rfl, ?_⟩; refine ⟨_, _, rfl, ?_⟩; ((repeat ((fail_if_success refine ⟨_, _, _, .z, ?_⟩); refine hs ?_)); refine ⟨_, _, _, .z, ?_⟩); refine ⟨_, rfl, ?_⟩; go_frame) | ((with_reducible refine Hp.lds H ?_); refine ⟨rfl, by kernel_rfl, ?_⟩; refine ⟨_, s_look rfl, ?_⟩; refine ⟨_, _, rfl, ?_⟩; ((repeat ((fail_if_success refine ⟨_, _, _, .z, ?_⟩); refine hs ?_)); refine ⟨_, _, _, .z, ?_⟩); (first | refine ⟨baC m.br m.bp, rfl, rfl, ?_⟩ | refine ⟨enC m.e, rfl, rfl, ?_⟩ | refine ⟨opC m.ok m.o0 m.o1 m.o2, rfl, rfl, ?_⟩); go_frame) | ((with_reducible refine (rbytes_any m.e hN.se _).mono ?_); rintro _ w1 ⟨Ae, ce, rfl, hown, hb⟩; replace H := (H.callOwn hb hown).rot2; clear hb hown) | (at_builtin; refine H.wlAppendBytes rfl _ _ rfl 1 _ _ _ _ (by rfl) rfl (by first | rfl | omega | (simp only [List.length_append, List.length_cons, List.length_nil]; first | done | omega)) _ _ _ _ (by rfl) (by first | rfl | omega | (simp only [List.length_append, List.length_cons, List.length_nil]; first | done | omega)) (H.o 0 rfl).rd (by first | omega | (simp only [List.length_append, List.length_cons, List.length_nil]; omega)) ?_; (clear H; intro Ay cy w1 H); simp only [List.set_cons_succ, List.set_cons_zero] at H; replace H := H.tail) | (at_builtin; refine H.wlAppendBytes rfl _ _ rfl 0 _ _ _ _ (by rfl) rfl (by first | rfl | omega | (simp only [List.length_append, List.length_cons, List.length_nil]; first | done | omega)) _ _ _ _ (by rfl) (by first | rfl | omega | (simp only [List.length_append, List.length_cons, List.length_nil]; first | done | omega)) (H.o 2 rfl).rd (by first | omega | (simp only [List.length_append, List.length_cons, List.length_nil]; omega)) ?_; (clear H; intro Ay cy w1 H); simp only [List.set_cons_succ, List.set_cons_zero] at H) | (at_builtin; refine H.wlAppendBytes rfl _ _ rfl 0 _ _ _ _ (by rfl) rfl (by first | rfl | omega | (simp only [List.length_append, List.length_cons, List.length_nil]; first | done | omega)) _ _ _ _ (by rfl) (by first | rfl | omega | (simp only [List.length_append, List.length_cons, List.length_nil]; first | done | omega)) (H.o 3 rfl).rd (by first | omega | (simp only [List.length_append, List.length_cons, List.length_nil]; omega)) ?_; (clear H; intro Ay cy w1 H); simp only [List.set_cons_succ, List.set_cons_zero] at H) | ((with_reducible refine (HRS.out _ (hR.rr.below H.below)).mono ?_); rintro _ w1 ⟨Ax, cx, rfl, hown, hb⟩; replace H := H.callOwn hb hown; clear hb hown))
    go_ret2
    have hL : prL m rs l = hd ++ fieldsL (lets m.k) m rs l := by unfold prL; rw [HHD.out]
    rw [HF.out] at hL
    refine ⟨Ay, cy, ?_, ?_, H.below⟩
    · refine ret_pair ?_; rw [hL]; simp only [List.length_append, List.length_cons, List.length_nil, hdl]; first | done | omega
    · rw [hL]; simpa only [List.append_assoc, List.cons_append, List.nil_append, List.append_nil] using H.o 0 rfl
  · have b1 : (m.k == 1) = false := by rw [hk]; rfl
    have b2 : (m.k == 2) = false := by rw [hk]; rfl
    have b3 : (m.k == 3) = false := by rw [hk]; rfl
    have b4 : (m.k == 4) = false := by rw [hk]; rfl
    have b5 : (m.k == 5) = true := by rw [hk]; rfl
    have b6 : (m.k == 6) = false := by rw [hk]; rfl
    have b7 : (m.k == 7) = false := by rw [hk]; rfl
    have b8 : (m.k == 8) = false := by rw [hk]; rfl
    have b9 : (m.k == 9) = false := by rw [hk]; rfl
    have b10 : (m.k == 10) = false := by rw [hk]; rfl
    have b11 : (m.k == 11) = false := by rw [hk]; rfl
    have b12 : (m.k == 12) = false := by rw [hk]; rfl
    have b13 : (m.k == 13) = false := by rw [hk]; rfl
    have b14 : (m.k == 14) = false := by rw [hk]; rfl
    have b15 : (m.k == 15) = false := by rw [hk]; rfl
    have HF : Hid (fieldsL (lets m.k) m rs l = (putL 6 m.br ++ putL 1 m.bp)) := Lib.hid (by rw [hk]; show fieldL 98 m rs l ++ [] = _; rw [List.append_nil]; rfl)
    clear hk
    go_wp2_with (first | ((with_reducible refine Hp.ld H ?_); refine ⟨rfl, ?_⟩; refine ⟨c_look rfl, ?_⟩; refine ⟨_, _, rfl, ?_⟩; ((repeat ((fail_if_success refine ⟨_, _, _, .z, ?_⟩); refine hs ?_)); refine ⟨_, _, _, .z, ?_⟩); refine ⟨_, rfl, ?_⟩; go_frame) | ((with_reducible refine Hp.lds H ?_); refine ⟨rfl, by kernel_rfl, ?_⟩; refine ⟨_, s_look rfl, ?_⟩; refine ⟨_, _, rfl, ?_⟩; ((repeat ((fail_if_success refine ⟨_, _, _, .z, ?_⟩); refine hs ?_)); refine ⟨_, _, _, .z, ?_⟩); (first | refine ⟨baC m.br m.bp, rfl, rfl, ?_⟩ | refine ⟨enC m.e, rfl, rfl, ?_⟩ | refine ⟨opC m.ok m.o0 m.o1 m.o2, rfl, rfl, ?_⟩); go_frame) | ((with_reducible refine (rbytes_any m.e hN.se _).mono ?_); rintro _ w1 ⟨Ae, ce, rfl, hown, hb⟩; replace H := (H.callOwn hb hown).rot2; clear hb hown))
    go_ret2
    have hL : prL m rs l = hd ++ fieldsL (lets m.k) m rs l := by unfold prL; rw [HHD.out]
    rw [HF.out] at hL
    refine ⟨Ay, cy, ?_, ?_, H.below⟩
    · refine ret_pair ?_; rw [hL]; simp only [List.length_append, List.length_cons, List.length_nil, hdl]; first | done | omega
    · rw [hL]; simpa only [List.append_assoc, List.cons_append, List.nil_append, List.append_nil] using H.o 0 rfl
  · have b1 : (m.k == 1) = false := by rw [hk]; rfl
    have b2 : (m.k == 2) = false := by rw [hk]; rfl
    have b3 : (m.k == 3) = false := by rw [hk]; rfl
    have b4 : (m.k == 4) = false := by rw [hk]; rfl
    have b5 : (m.k == 5) = false := by rw [hk]; rfl
    have b6 : (m.k == 6) = true := by rw [hk]; rfl
    have b7 : (m.k == 7) = false := by rw [hk]; rfl
    have b8 : (m.k == 8) = false := by rw [hk]; rfl
    have b9 : (m.k == 9) = false := by rw [hk]; rfl
    have b10 : (m.k == 10) = false := by rw [hk]; rfl
    have b11 : (m.k == 11) = false := by rw [hk]; rfl
    have b12 : (m.k == 12) = false := by rw [hk]; rfl
    have b13 : (m.k == 13) = false := by rw [hk]; rfl
    have b14 : (m.k == 14) = false := by rw [hk]; rfl
    have b15 : (m.k == 15) = false := by rw [hk]; rfl
    have HF : Hid (fieldsL (lets m.k) m rs l = (putL 6 m.br ++ putL 1 m.bp) ++ (putL 6 m.ix ++ (putL 6 m.cm ++ (bytesL m.e)))) := Lib.hid (by rw [hk]; show fieldL 98 m rs l ++ (fieldL 105 m rs l ++ (fieldL 99 m rs l ++ (fieldL 101 m rs l ++ []))) = _; rw [List.append_nil]; rfl)
    clear hk
    go_wp2_with (first | ((with_reducible refine Hp.ld H ?_); refine ⟨rfl, ?_⟩; refine ⟨c_look rfl, ?_⟩; refine ⟨_, _, rfl, ?_⟩; ((repeat ((fail_if_success refine ⟨_, _, _, .z, ?_⟩); refine hs ?_)); refine ⟨_, _, _, .z, ?_⟩); refine ⟨_, rfl, ?_⟩; go_frame) | ((with_reducible refine Hp.lds H ?_); refine ⟨rfl, by kernel_rfl, ?_⟩; refine ⟨_, s_look rfl, ?_⟩; refine ⟨_, _, rfl, ?_⟩; ((repeat ((fail_if_success refine ⟨_, _, _, .z, ?_⟩); refine hs ?_)); refine ⟨_, _, _, .z, ?_⟩); (first | refine ⟨baC m.br m.bp, rfl, rfl, ?_⟩ | refine ⟨enC m.e, rfl, rfl, ?_⟩ | refine ⟨opC m.ok m.o0 m.o1 m.o2, rfl, rfl, ?_⟩); go_frame) | ((with_reducible refine (rbytes_any m.e hN.se _).mono ?_); rintro _ w1 ⟨Ae, ce, rfl, hown, hb⟩; replace H := (H.callOwn hb hown).rot2; clear hb hown) | (at_builtin; refine H.wlAppendBytes rfl _ _ rfl 0 _ _ _ _ (by rfl) rfl (by first | rfl | omega | (simp only [List.length_append, List.length_cons, List.length_nil]; first | done | omega)) _ _ _ _ (by rfl) (by first | rfl | omega | (simp only [List.length_append, List.length_cons, List.length_nil]; first | done | omega)) (H.o 2 rfl).rd (by first | omega | (simp only [List.length_append, List.length_cons, List.length_nil]; omega)) ?_; (clear H; intro Ay cy w1 H); simp only [List.set_cons_succ, List.set_cons_zero] at H) | (at_builtin; refine H.wlAppendBytes rfl _ _ rfl 0 _ _ _ _ (by rfl) rfl (by first | rfl | omega | (simp only [List.length_append, List.length_cons, List.length_nil]; first | done | omega)) _ _ _ _ (by rfl) (by first | rfl | omega | (simp only [List.length_append, List.length_cons, List.length_nil]; first | done | omega)) (H.o 3 rfl).rd (by first | omega | (simp only [List.length_append, List.length_cons, List.length_nil]; omega)) ?_; (clear H; intro Ay cy w1 H); simp only [List.set_cons_succ, List.set_cons_zero] at H) | (at_builtin; refine H.wlAppendBytes rfl _ _ rfl 0 _ _ _ _ (by rfl) rfl (by first | rfl | omega | (simp only [List.length_append, List.length_cons, List.length_nil]; first | done | omega)) _ _ _ _ (by rfl) (by first | rfl | omega | (simp only [List.length_append, List.length_cons, List.length_nil]; first | done | omega)) (H.o 1 rfl).rd (by first | omega | (simp only [List.length_append, List.length_cons, List.length_nil]; omega)) ?_; (clear H; intro Ay cy w1 H); simp only [List.set_cons_succ, List.set_cons_zero] at H))
    go_ret2
    have hL : prL m rs l = hd ++ fieldsL (lets m.k) m rs l := by unfold prL; rw [HHD.out]
    rw [HF.out] at hL
    refine ⟨Ay, cy, ?_, ?_, H.below⟩
    · refine ret_pair ?_; rw [hL]; simp only [List.length_append, List.length_cons, List.length_nil, hdl]; first | done | omega
    · rw [hL]; simpa only [List.append_assoc, List.cons_append, List.nil_append, List.append_nil] using H.o 0 rfl
  · have b1 : (m.k == 1) = false := by rw [hk]; rfl
    have b2 : (m.k == 2) = false := by rw [hk]; rfl
    have b3 : (m.k == 3) = false := by rw [hk]; rfl
    have b4 : (m.k == 4) = false := by rw [hk]; rfl
    have b5 : (m.k == 5) = false := by rw [hk]; rfl
    have b6 : (m.k == 6) = false := by rw [hk]; rfl
    have b7 : (m.k == 7) = true := by rw [hk]; rfl
    have b8 : (m.k == 8) = false := by rw [hk]; rfl
    have b9 : (m.k == 9) = false := by rw [hk]; rfl
    have b10 : (m.k == 10) = false := by rw [hk]; rfl
    have b11 : (m.k == 11) = false := by rw [hk]; rfl
    have b12 : (m.k == 12) = false := by rw [hk]; rfl
    have b13 : (m.k == 13) = false := by rw [hk]; rfl
    have b14 : (m.k == 14) = false := by rw [hk]; rfl
    have b15 : (m.k == 15) = false := by rw [hk]; rfl
    have HF : Hid (fieldsL (lets m.k) m rs l = (putL 6 m.br ++ putL 1 m.bp) ++ (putL 6 m.ix)) := Lib.hid (by rw [hk]; show fieldL 98 m rs l ++ (fieldL 105 m rs l ++ []) = _; rw [List.append_nil]; rfl)
    clear hk
    go_wp2_with (first | ((with_reducible refine Hp.ld H ?_); refine ⟨rfl, ?_⟩; refine ⟨c_look rfl, ?_⟩; refine ⟨_, _, rfl, ?_⟩; ((repeat ((fail_if_success refine ⟨_, _, _, .z, ?_⟩); refine hs ?_)); refine ⟨_, _, _, .z, ?_⟩); refine ⟨_, rfl, ?_⟩; go_frame) | ((with_reducible refine Hp.lds H ?_); refine ⟨rfl, by kernel_rfl, ?_⟩; refine ⟨_, s_look rfl, ?_⟩; refine ⟨_, _, rfl, ?_⟩; ((repeat ((fail_if_success refine ⟨_, _, _, .z, ?_⟩); refine hs ?_)); refine ⟨_, _, _, .z, ?_⟩); (first | refine ⟨baC m.br m.bp, rfl, rfl, ?_⟩ | refine ⟨enC m.e, rfl, rfl, ?_⟩ | refine ⟨opC m.ok m.o0 m.o1 m.o2, rfl, rfl, ?_⟩); go_frame) | ((with_reducible refine (rbytes_any m.e hN.se _).mono ?_); rintro _ w1 ⟨Ae, ce, rfl, hown, hb⟩; replace H := (H.callOwn hb hown).rot2; clear hb hown) | (at_builtin; refine H.wlAppendBytes rfl _ _ rfl 0 _ _ _ _ (by rfl) rfl (by first | rfl | omega | (simp only [List.length_append, List.length_cons, List.length_nil]; first | done | omega)) _ _ _ _ (by rfl) (by first | rfl | omega | (simp only [List.length_append, List.length_cons, List.length_nil]; first | done | omega)) (H.o 2 rfl).rd (by first | omega | (simp only [List.length_append, List.length_cons, List.length_nil]; omega)) ?_; (clear H; intro Ay cy w1 H); simp only [List.set_cons_succ, List.set_cons_zero] at H))
    go_ret2
    have hL : prL m rs l = hd ++ fieldsL (lets m.k) m rs l := by unfold prL; rw [HHD.out]
    rw [HF.out] at hL
    refine ⟨Ay, cy, ?_, ?_, H.below⟩
    · refine ret_pair ?_; rw [hL]; simp only [List.length_append, List.length_cons, List.length_nil, hdl]; first | done | omega
    · rw [hL]; simpa only [List.append_assoc, List.cons_append, List.nil_append, List.append_nil] using H.o 0 rfl
  · have b1 : (m.k == 1) = false := by rw [hk]; rfl
    have b2 : (m.k == 2) = false := by rw [hk]; rfl
    have b3 : (m.k == 3) = false := by rw [hk]; rfl
    have b4 : (m.k == 4) = false := by rw [hk]; rfl
    have b5 : (m.k == 5) = false := by rw [hk]; rfl
    have b6 : (m.k == 6) = false := by rw [hk]; rfl
    have b7 : (m.k == 7) = false := by rw [hk]; rfl
    have b8 : (m.k == 8) = true := by rw [hk]; rfl
    have b9 : (m.k == 9) = false := by rw [hk]; rfl
    have b10 : (m.k == 10) = false := by rw [hk]; rfl
    have b11 : (m.k == 11) = false := by rw [hk]; rfl
    have b12 : (m.k == 12) = false := by rw [hk]; rfl
    have b13 : (m.k == 13) = false := by rw [hk]; rfl
    have b14 : (m.k == 14) = false := by rw [hk]; rfl
    have b15 : (m.k == 15) = false := by rw [hk]; rfl
    have HF : Hid (fieldsL (lets m.k) m rs l = (putL 6 m.br ++ putL 1 m.bp) ++ (putL 6 m.cm ++ (putL 6 m.nc))) := Lib.hid (by rw [hk]; show fieldL 98 m rs l ++ (fieldL 99 m rs l ++ (fieldL 110 m rs l ++ [])) = _; rw [List.append_nil]; rfl)
    clear hk
    go_wp2_with (first | ((with_reducible refine Hp.ld H ?_); refine ⟨rfl, ?_⟩; refine ⟨c_look rfl, ?_⟩; refine ⟨_, _, rfl, ?_⟩; ((repeat ((fail_if_success refine ⟨_, _, _, .z, ?_⟩); refine hs ?_)); refine ⟨_, _, _, .z, ?_⟩); refine ⟨_, rfl, ?_⟩; go_frame) | ((with_reducible refine Hp.lds H ?_); refine ⟨rfl, by kernel_rfl, ?_⟩; refine ⟨_, s_look rfl, ?_⟩; refine ⟨_, _, rfl, ?_⟩; ((repeat ((fail_if_success refine ⟨_, _, _, .z, ?_⟩); refine hs ?_)); refine ⟨_, _, _, .z, ?_⟩); (first | refine ⟨baC m.br m.bp, rfl, rfl, ?_⟩ | refine ⟨enC m.e, rfl, rfl, ?_⟩ | refine ⟨opC m.ok m.o0 m.o1 m.o2, rfl, rfl, ?_⟩); go_frame) | ((with_reducible refine (rbytes_any m.e hN.se _).mono ?_); rintro _ w1 ⟨Ae, ce, rfl, hown, hb⟩; replace H := (H.callOwn hb hown).rot2; clear hb hown) | (at_builtin; refine H.wlAppendBytes rfl _ _ rfl 0 _ _ _ _ (by rfl) rfl (by first | rfl | omega | (simp only [List.length_append, List.length_cons, List.length_nil]; first | done | omega)) _ _ _ _ (by rfl) (by first | rfl | omega | (simp only [List.length_append, List.length_cons, List.length_nil]; first | done | omega)) (H.o 3 rfl).rd (by first | omega | (simp only [List.length_append, List.length_cons, List.length_nil]; omega)) ?_; (clear H; intro Ay cy w1 H); simp only [List.set_cons_succ, List.set_cons_zero] at H) | (at_builtin; refine H.wlAppendBytes rfl _ _ rfl 0 _ _ _ _ (by rfl) rfl (by first | rfl | omega | (simp only [List.length_append, List.length_cons, List.length_nil]; first | done | omega)) _ _ _ _ (by rfl) (by first | rfl | omega | (simp only [List.length_append, List.length_cons, List.length_nil]; first | done | omega)) (H.o 4 rfl).rd (by first | omega | (simp only [List.length_append, List.length_cons, List.length_nil]; omega)) ?_; (clear H; intro Ay cy w1 H); simp only [List.set_cons_succ, List.set_cons_zero] at H))
    go_ret2
    have hL : prL m rs l = hd ++ fieldsL (lets m.k) m rs l := by unfold prL; rw [HHD.out]
    rw [HF.out] at hL
    refine ⟨Ay, cy, ?_, ?_, H.below⟩
    · refine ret_pair ?_; rw [hL]; simp only [List.length_append, List.length_cons, List.length_nil, hdl]; first | done | omega
    · rw [hL]; simpa only [List.append_assoc, List.cons_append, List.nil_append, List.append_nil] using H.o 0 rfl
  · have b1 : (m.k == 1) = false := by rw [hk]; rfl
    have b2 : (m.k == 2) = false := by rw [hk]; rfl
    have b3 : (m.k == 3) = false := by rw [hk]; rfl
    have b4 : (m.k == 4) = false := by rw [hk]; rfl
    have b5 : (m.k == 5) = false := by rw [hk]; rfl
    have b6 : (m.k == 6) = false := by rw [hk]; rfl
    have b7 : (m.k == 7) = false := by rw [hk]; rfl
    have b8 : (m.k == 8) = false := by rw [hk]; rfl
    have b9 : (m.k == 9) = true := by rw [hk]; rfl
    have b10 : (m.k == 10) = false := by rw [hk]; rfl
    have b11 : (m.k == 11) = false := by rw [hk]; rfl
    have b12 : (m.k == 12) = false := by rw [hk]; rfl
    have b13 : (m.k == 13) = false := by rw [hk]; rfl
    have b14 : (m.k == 14) = false := by rw [hk]; rfl
    have b15 : (m.k == 15) = false := by rw [hk]; rfl
    have HF : Hid (fieldsL (lets m.k) m rs l = (putL 6 m.br ++ putL 1 m.bp) ++ (putL 6 m.nc)) := Lib.hid (by rw [hk]; show fieldL 98 m rs l ++ (fieldL 110 m rs l ++ []) = _; rw [List.append_nil]; rfl)
    clear hk
    go_wp2_with (first | ((with_reducible refine Hp.ld H ?_); refine ⟨rfl, ?_⟩; refine ⟨c_look rfl, ?_⟩; refine ⟨_, _, rfl, ?_⟩; ((repeat ((fail_if_success refine ⟨_, _, _, .z, ?_⟩); refine hs ?_)); refine ⟨_, _, _, .z, ?_⟩); refine ⟨_, rfl, ?_⟩; go_frame) | ((with_reducible refine Hp.lds H ?_); refine ⟨rfl, by kernel_rfl, ?_⟩; refine ⟨_, s_look rfl, ?_⟩; refine ⟨_, _, rfl, ?_⟩; ((repeat ((fail_if_success refine ⟨_, _, _, .z, ?_⟩); refine hs ?_)); refine ⟨_, _, _, .z, ?_⟩); (first | refine ⟨baC m.br m.bp, rfl, rfl, ?_⟩ | refine ⟨enC m.e, rfl, rfl, ?_⟩ | refine ⟨opC m.ok m.o0 m.o1 m.o2, rfl, rfl, ?_⟩); go_frame) | ((with_reducible refine (rbytes_any m.e hN.se _).mono ?_); rintro _ w1 ⟨Ae, ce, rfl, hown, hb⟩; replace H := (H.callOwn hb hown).rot2; clear hb hown) | (at_builtin; refine H.wlAppendBytes rfl _ _ rfl 0 _ _ _ _ (by rfl) rfl (by first | rfl | omega | (simp only [List.length_append, List.length_cons, List.length_nil]; first | done | omega)) _ _ _ _ (by rfl) (by first | rfl | omega | (simp only [List.length_append, List.length_cons, List.length_nil]; first | done | omega)) (H.o 4 rfl).rd (by first | omega | (simp only [List.length_append, List.length_cons, List.length_nil]; omega)) ?_; (clear H; intro Ay cy w1 H); simp only [List.set_cons_succ, List.set_cons_zero] at H))
    go_ret2
    have hL : prL m rs l = hd ++ fieldsL (lets m.k) m rs l := by unfold prL; rw [HHD.out]
    rw [HF.out] at hL
    refine ⟨Ay, cy, ?_, ?_, H.below⟩
    · refine ret_pair ?_; rw [hL]; simp only [List.length_append, List.length_cons, List.length_nil, hdl]; first | done | omega
    · rw [hL]; simpa only [List.append_assoc, List.cons_append, List.nil_append, List.append_nil] using H.o 0 rfl
  · exact absurd hB (by rw [hk]; decide)
  · have b1 : (m.k == 1) = false := by rw [hk]; rfl
    have b2 : (m.k == 2) = false := by rw [hk]; rfl
    have b3 : (m.k == 3) = false := by rw [hk]; rfl
    have b4 : (m.k == 4) = false := by rw [hk]; rfl
    have b5 : (m.k == 5) = false := by rw [hk]; rfl
    have b6 : (m.k == 6) = false := by rw [hk]; rfl
    have b7 : (m.k == 7) = false := by rw [hk]; rfl
    have b8 : (m.k == 8) = false := by rw [hk]; rfl
    have b9 : (m.k == 9) = false := by rw [hk]; rfl
    have b10 : (m.k == 10) = false := by rw [hk]; rfl
    have b11 : (m.k == 11) = true := by rw [hk]; rfl
    have b12 : (m.k == 12) = false := by rw [hk]; rfl
    have b13 : (m.k == 13) = false := by rw [hk]; rfl
    have b14 : (m.k == 14) = false := by rw [hk]; rfl
    have b15 : (m.k == 15) = false := by rw [hk]; rfl
    have HF : Hid (fieldsL (lets m.k) m rs l = (putL 6 m.br ++ putL 1 m.bp) ++ (putL 6 m.ix ++ (bytesL m.e))) := Lib.hid (by rw [hk]; show fieldL 98 m rs l ++ (fieldL 105 m rs l ++ (fieldL 101 m rs l ++ [])) = _; rw [List.append_nil]; rfl)
    clear hk
    go_wp2_with (first | ((with_reducible refine Hp.ld H ?_); refine ⟨rfl, ?_⟩; refine ⟨c_look rfl, ?_⟩; refine ⟨_, _, rfl, ?_⟩; ((repeat ((fail_if_success refine ⟨_, _, _, .z, ?_⟩); refine hs ?_)); refine ⟨_, _, _, .z, ?_⟩); refine ⟨_, rfl, ?_⟩; go_frame) | ((with_reducible refine Hp.lds H ?_); refine ⟨rfl, by kernel_rfl, ?_⟩; refine ⟨_, s_look rfl, ?_⟩; refine ⟨_, _, rfl, ?_⟩; ((repeat ((fail_if_success refine ⟨_, _, _, .z, ?_⟩); refine hs ?_)); refine ⟨_, _, _, .z, ?_⟩); (first | refine ⟨baC m.br m.bp, rfl, rfl, ?_⟩ | refine ⟨enC m.e, rfl, rfl, ?_⟩ | refine ⟨opC m.ok m.o0 m.o1 m.o2, rfl, rfl, ?_⟩); go_frame) | ((with_reducible refine (rbytes_any m.e hN.se _).mono ?_); rintro _ w1 ⟨Ae, ce, rfl, hown, hb⟩; replace H := (H.callOwn hb hown).rot2; clear hb hown) | (at_builtin; refine H.wlAppendBytes rfl _ _ rfl 0 _ _ _ _ (by rfl) rfl (by first | rfl | omega | (simp only [List.length_append, List.length_cons, List.length_nil]; first | done | omega)) _ _ _ _ (by rfl) (by first | rfl | omega | (simp only [List.length_append, List.length_cons, List.length_nil]; first | done | omega)) (H.o 2 rfl).rd (by first | omega | (simp only [List.length_append, List.length_cons, List.length_nil]; omega)) ?_; (clear H; intro Ay cy w1 H); simp only [List.set_cons_succ, List.set_cons_zero] at H) | (at_builtin; refine H.wlAppendBytes rfl _ _ rfl 0 _ _ _ _ (by rfl) rfl (by first | rfl | omega | (simp only [List.length_append, List.length_cons, List.length_nil]; first | done | omega)) _ _ _ _ (by rfl) (by first | rfl | omega | (simp only [List.length_append, List.length_cons, List.length_nil]; first | done | omega)) (H.o 1 rfl).rd (by first | omega | (simp only [List.length_append, List.length_cons, List.length_nil]; omega)) ?_; (clear H; intro Ay cy w1 H); simp only [List.set_cons_succ, List.set_cons_zero] at H))
    go_ret2
    have hL : prL m rs l = hd ++ fieldsL (lets m.k) m rs l := by unfold prL; rw [HHD.out]
    rw [HF.out] at hL
    refine ⟨Ay, cy, ?_, ?_, H.below⟩
    · refine ret_pair ?_; rw [hL]; simp only [List.length_append, List.length_cons, List.length_nil, hdl]; first | done | omega
    · rw [hL]; simpa only [List.append_assoc, List.cons_append, List.nil_append, List.append_nil] using H.o 0 rfl
  · exact absurd hB (by rw [hk]; decide)
  · exact absurd hB (by rw [hk]; decide)
  · exact absurd hB (by rw [hk]; decide)
  · exact absurd hB (by rw [hk]; decide)
set_option maxHeartbeats 64000000 in
theorem mrprint_nob (m : Mg) (rs : List Rp) (l : List UInt8) (n : Int) (w : World) (hN : MgN m) (hR : MgR w m rs l) (hn1 : -9223372036854775808 ≤ n) (hn2 : n ≤ 9223372036854775807) (hmay : mayM m rs l n = true) (hB : hasB m.k = false) : Calls Tryd.prog 11 #[.agg (mgC m).toArray, .int .i64 n] w (RetBI w (printL m rs l n) (printE m rs l n)) := by
  have H := Hp.nil w
  unfold printL printE
  rw [hmay]
  obtain ⟨⟨e1, e2⟩, e3, e4⟩ := may_ends hmay
  obtain ⟨⟨i1, i2⟩, ⟨i3, i4⟩, ⟨i5, i6⟩, ⟨i7, i8⟩⟩ := may_nums hmay
  have hu := hN.uk
  have HW1 := Lib.hid (fun w => rwho_any m.fr w (by omega) (by omega))
  have HW2 := Lib.hid (fun w => rwho_any m.to w (by omega) (by omega))
  have hwb : ∀ i : Int, -4 ≤ i → i ≤ 6 → 0 ≤ whoN i ∧ whoN i < 256 := fun i h1 h2 => by unfold whoN; split <;> omega
  have hw1 := hwb m.fr e1 e2
  have hw2 := hwb m.to e3 e4
  obtain ⟨hd, hhd⟩ : ∃ hd : List UInt8, [UInt8.ofNat m.k.toNat, UInt8.ofNat (whoN m.fr).toNat, UInt8.ofNat (whoN m.to).toNat] = hd := ⟨_, rfl⟩
  have HDL : Hid (hd.length = 3) := Lib.hid (by rw [← hhd]; rfl)
  have hq : nums 0 [Value.int .u8 m.k, .int .u8 (whoN m.fr), .int .u8 (whoN m.to)] = nums 0 (bvs hd) := by
    rw [← hhd]
    show _ = nums 0 [Value.int .u8 ((UInt8.ofNat m.k.toNat).toNat : Int), .int .u8 ((UInt8.ofNat (whoN m.fr).toNat).toNat : Int), .int .u8 ((UInt8.ofNat (whoN m.to).toNat).toNat : Int)]
    rw [ofNat_toNat, ofNat_toNat, ofNat_toNat]
    have h1 : ((m.k.toNat % 256 : Nat) : Int) = m.k := by omega
    have h2 : (((whoN m.fr).toNat % 256 : Nat) : Int) = whoN m.fr := by omega
    have h3 : (((whoN m.to).toNat % 256 : Nat) : Int) = whoN m.to := by omega
    rw [h1, h2, h3]
  have HD := Lib.hid hq
  have HHD := Lib.hid (puthd hhd hu hw1 hw2)
  have HX7 := Lib.hid (fun w => rnum6 i1 (by omega : m.ix < 281474976710656) w)
  have HX8 := Lib.hid (fun w => rnum6 i3 (by omega : m.cm < 281474976710656) w)
  have HX9 := Lib.hid (fun w => rnum6 i5 (by omega : m.nc < 281474976710656) w)
  have HX10 := Lib.hid (fun w => rnum6 i7 (by omega : m.sq < 281474976710656) w)
  have m7 := putL_length6 6 m.ix
  have m8 := putL_length6 6 m.cm
  have m9 := putL_length6 6 m.nc
  have m10 := putL_length6 6 m.sq
  have me := bytesL_len m.e
  have hb0 : decide (0 < m.br) = false := decide_eq_false (by have := may_nobal hmay hB; omega)
  clear hq hhd hw1 hw2 hwb e1 e2 e3 e4 i1 i2 i3 i4 i5 i6 i7 i8 hu
  go_enter Tryd.func11, Tryd.ntmps11; go_wp2_with (first | ((with_reducible refine Hp.box H ?_); (first | refine ⟨rfl, mgC m, rfl, ?_⟩); (clear H; intro gm w1 H); go_frame) | ((with_reducible refine Hp.lda H ?_); refine ⟨rfl, by kernel_rfl, ?_⟩; refine ⟨_, s_look rfl, ?_⟩; refine ⟨_, rfl, ?_⟩; ((repeat ((fail_if_success refine ⟨_, _, _, .z, ?_⟩); refine hs ?_)); refine ⟨_, _, _, .z, ?_⟩); refine ⟨rfl, ?_⟩; go_frame) | ((with_reducible refine (rmaym_v hmay hN (hR.below H.below) hn1 hn2).mono ?_); rintro _ w1 ⟨rfl, hb⟩; replace H := H.call hb; clear hb))
  refine hw_start [] [_] H (by kernel_rfl) (fun w1 H => ?_); have hS : HpW w _ w1 := ⟨[], H⟩; simp only [List.nil_append] at H
  (refine hw_take hS 0 (by decide +kernel) (by decide +kernel) (by decide +kernel) ⟨_, rfl, rfl, ?_, ?_, fun _ _ _ h => h, ?_⟩; rotate_left; (intro w _; go_simp; try with_reducible rfl); go_frame); (refine hw_take hS 1 (by decide +kernel) (by decide +kernel) (by decide +kernel) ⟨_, rfl, rfl, _, fun w h => ex_load rfl rfl (hw_ld (by kernel_rfl) (.z) rfl w h), fun _ _ _ h => h, ?_⟩; go_frame); (refine hw_take hS 2 (by decide +kernel) (by decide +kernel) (by decide +kernel) ⟨_, rfl, rfl, ?_, ?_, fun _ _ _ h => h, ?_⟩; rotate_left; (intro w _; go_simp; try with_reducible rfl); go_frame); (refine hw_take hS 3 (by decide +kernel) (by decide +kernel) (by decide +kernel) ⟨_, rfl, rfl, _, fun w h => ex_load rfl rfl (hw_ld (by kernel_rfl) (.z) rfl w h), fun _ _ _ h => h, ?_⟩; go_frame); (refine hw_take hS 5 (by decide +kernel) (by decide +kernel) (by decide +kernel) ⟨_, rfl, rfl, ?_, ?_, fun _ _ _ h => h, ?_⟩; rotate_left; (intro w _; go_simp; try with_reducible rfl); go_frame); (refine hw_take hS 6 (by decide +kernel) (by decide +kernel) (by decide +kernel) ⟨_, rfl, rfl, _, fun w h => ex_load rfl rfl (hw_ld (by kernel_rfl) (.z) rfl w h), fun _ _ _ h => h, ?_⟩; go_frame)
  clear hS
  (refine hw_one 4 (by decide +kernel) ⟨_, rfl, rfl, fun K hK => ?_⟩)
  refine hw_callk (vs := [_]) (HW1.out _) cf_who rfl rfl rfl ?_; rintro e w' ⟨rfl, hb⟩; replace H := H.call hb; clear hb; refine ⟨_, rfl, ?_⟩; refine hK _ _ ⟨[], H⟩ ?_; clear hK K; go_frame; have hS : HpW _ _ _ := ⟨[], H⟩; clear hS
  (refine hw_one 7 (by decide +kernel) ⟨_, rfl, rfl, fun K hK => ?_⟩)
  refine hw_callk (vs := [_]) (HW2.out _) cf_who rfl rfl rfl ?_; rintro e w' ⟨rfl, hb⟩; replace H := H.call hb; clear hb; refine ⟨_, rfl, ?_⟩; refine hK _ _ ⟨[], H⟩ ?_; clear hK K; go_frame; have hS : HpW _ _ _ := ⟨[], H⟩; clear hS
  (refine hw_one 8 (by decide +kernel) ⟨_, rfl, rfl, fun K hK => ?_⟩); refine hw_bslB (parts := [_, _, _]) (l := hd) rfl rfl rfl HD.out HDL.out H (fun g3 w1 H => ?_); refine hK _ _ ⟨[_], H⟩ ?_; clear hK K; go_frame; have hS : HpW _ _ _ := ⟨[_], H⟩; (refine hw_take hS 9 (by decide +kernel) (by decide +kernel) (by decide +kernel) ⟨_, rfl, rfl, ?_, ?_, fun _ _ _ h => h, ?_⟩; rotate_left; (intro w _; go_simp; try with_reducible rfl); go_frame); refine wpAnyH_done (by kernel_rfl) ?_ _; clear hS
  clear HD HW1 HW2
  have hdl := HDL.out
  go_wp2_with (first | ((with_reducible refine Hp.ld H ?_); refine ⟨rfl, ?_⟩; refine ⟨c_look rfl, ?_⟩; refine ⟨_, _, rfl, ?_⟩; ((repeat ((fail_if_success refine ⟨_, _, _, .z, ?_⟩); refine hs ?_)); refine ⟨_, _, _, .z, ?_⟩); refine ⟨_, rfl, ?_⟩; go_frame))
  refine hw_start [] [_, _] H (by kernel_rfl) (fun w1 H => ?_); have hS : HpW w _ w1 := ⟨[], H⟩; simp only [List.nil_append] at H
  (refine hw_take hS 0 (by decide +kernel) (by decide +kernel) (by decide +kernel) ⟨_, rfl, rfl, ?_, ?_, fun _ _ _ h => h, ?_⟩; rotate_left; (intro w _; go_simp; try with_reducible rfl); go_frame); (refine hw_take hS 1 (by decide +kernel) (by decide +kernel) (by decide +kernel) ⟨_, rfl, rfl, _, fun w h => ex_load rfl rfl (hw_ld (by kernel_rfl) (.s .z) rfl w h), fun _ _ _ h => h, ?_⟩; go_frame); (refine hw_take hS 3 (by decide +kernel) (by decide +kernel) (by decide +kernel) ⟨_, rfl, rfl, ?_, ?_, fun _ _ _ h => h, ?_⟩; rotate_left; (intro w _; go_simp; try with_reducible rfl); go_frame); (refine hw_take hS 4 (by decide +kernel) (by decide +kernel) (by decide +kernel) ⟨_, rfl, rfl, _, fun w h => ex_load rfl rfl (hw_ld (by kernel_rfl) (.s .z) rfl w h), fun _ _ _ h => h, ?_⟩; go_frame); (refine hw_take hS 6 (by decide +kernel) (by decide +kernel) (by decide +kernel) ⟨_, rfl, rfl, ?_, ?_, fun _ _ _ h => h, ?_⟩; rotate_left; (intro w _; go_simp; try with_reducible rfl); go_frame); (refine hw_take hS 7 (by decide +kernel) (by decide +kernel) (by decide +kernel) ⟨_, rfl, rfl, _, fun w h => ex_load rfl rfl (hw_ld (by kernel_rfl) (.s .z) rfl w h), fun _ _ _ h => h, ?_⟩; go_frame); (refine hw_take hS 9 (by decide +kernel) (by decide +kernel) (by decide +kernel) ⟨_, rfl, rfl, ?_, ?_, fun _ _ _ h => h, ?_⟩; rotate_left; (intro w _; go_simp; try with_reducible rfl); go_frame); (refine hw_take hS 10 (by decide +kernel) (by decide +kernel) (by decide +kernel) ⟨_, rfl, rfl, _, fun w h => ex_load rfl rfl (hw_ld (by kernel_rfl) (.s .z) rfl w h), fun _ _ _ h => h, ?_⟩; go_frame)
  clear hS
  (refine hw_one 2 (by decide +kernel) ⟨_, rfl, rfl, fun K hK => ?_⟩)
  refine hw_callB (vs := [_, _]) (HX7.out _) cf_num rfl rfl rfl H (fun A37 c37 w1 H => ?_)
  refine hK _ _ ⟨[_], H⟩ ?_; clear hK K; go_frame; have hS : HpW _ _ _ := ⟨[_], H⟩; clear hS
  (refine hw_one 5 (by decide +kernel) ⟨_, rfl, rfl, fun K hK => ?_⟩)
  refine hw_callB (vs := [_, _]) (HX8.out _) cf_num rfl rfl rfl H (fun A40 c40 w1 H => ?_)
  refine hK _ _ ⟨[_, _], H⟩ ?_; clear hK K; go_frame; have hS : HpW _ _ _ := ⟨[_, _], H⟩; clear hS
  (refine hw_one 8 (by decide +kernel) ⟨_, rfl, rfl, fun K hK => ?_⟩)
  refine hw_callB (vs := [_, _]) (HX9.out _) cf_num rfl rfl rfl H (fun A43 c43 w1 H => ?_)
  refine hK _ _ ⟨[_, _, _], H⟩ ?_; clear hK K; go_frame; have hS : HpW _ _ _ := ⟨[_, _, _], H⟩; clear hS
  (refine hw_one 11 (by decide +kernel) ⟨_, rfl, rfl, fun K hK => ?_⟩)
  refine hw_callB (vs := [_, _]) (HX10.out _) cf_num rfl rfl rfl H (fun A46 c46 w1 H => ?_)
  refine hK _ _ ⟨[_, _, _, _], H⟩ ?_; clear hK K; go_frame; have hS : HpW _ _ _ := ⟨[_, _, _, _], H⟩
  (refine hw_take hS 12 (by decide +kernel) (by decide +kernel) (by decide +kernel) ⟨_, rfl, rfl, ?_, ?_, fun _ _ _ h => h, ?_⟩; rotate_left; (intro w _; go_simp; try with_reducible rfl); go_frame); (refine hw_take hS 13 (by decide +kernel) (by decide +kernel) (by decide +kernel) ⟨_, rfl, rfl, ?_, ?_, fun _ _ _ h => h, ?_⟩; rotate_left; (intro w _; go_simp; try with_reducible rfl); go_frame); (refine hw_take hS 14 (by decide +kernel) (by decide +kernel) (by decide +kernel) ⟨_, rfl, rfl, ?_, ?_, fun _ _ _ h => h, ?_⟩; rotate_left; (intro w _; go_simp; try with_reducible rfl); go_frame); (refine hw_take hS 15 (by decide +kernel) (by decide +kernel) (by decide +kernel) ⟨_, rfl, rfl, ?_, ?_, fun _ _ _ h => h, ?_⟩; rotate_left; (intro w _; go_simp; try with_reducible rfl); go_frame)
  refine wpAnyH_done (by kernel_rfl) ?_ _
  clear hS
  replace H := H.pick (L' := [_, _, _, _, _, _]) [4, 3, 2, 1, 0, 5] (by decide) rfl
  clear HX7 HX8 HX9 HX10
  rcases kinds (may_parts hmay).1 with hk | hk | hk | hk | hk | hk | hk | hk | hk | hk | hk | hk | hk | hk | hk
  · have b1 : (m.k == 1) = true := by rw [hk]; rfl
    have b2 : (m.k == 2) = false := by rw [hk]; rfl
    have b3 : (m.k == 3) = false := by rw [hk]; rfl
    have b4 : (m.k == 4) = false := by rw [hk]; rfl
    have b5 : (m.k == 5) = false := by rw [hk]; rfl
    have b6 : (m.k == 6) = false := by rw [hk]; rfl
    have b7 : (m.k == 7) = false := by rw [hk]; rfl
    have b8 : (m.k == 8) = false := by rw [hk]; rfl
    have b9 : (m.k == 9) = false := by rw [hk]; rfl
    have b10 : (m.k == 10) = false := by rw [hk]; rfl
    have b11 : (m.k == 11) = false := by rw [hk]; rfl
    have b12 : (m.k == 12) = false := by rw [hk]; rfl
    have b13 : (m.k == 13) = false := by rw [hk]; rfl
    have b14 : (m.k == 14) = false := by rw [hk]; rfl
    have b15 : (m.k == 15) = false := by rw [hk]; rfl
    have HF : Hid (fieldsL (lets m.k) m rs l = putL 6 m.sq ++ ((putL 1 m.ok ++ (textL m.o0.data.toList ++ (textL m.o1.data.toList ++ textL m.o2.data.toList))))) := Lib.hid (by rw [hk]; show fieldL 115 m rs l ++ (fieldL 111 m rs l ++ []) = _; rw [List.append_nil]; rfl)
    obtain ⟨z0, z1, z2⟩ := may_op hmay hk
    have HOP := Lib.hid (fun w => rop_any m.ok m.o0 m.o1 m.o2 w hN.uo.1 hN.uo.2 z0 z1 z2)
    have q0 := textL_length_le m.o0.data.toList
    have q1 := textL_length_le m.o1.data.toList
    have q2 := textL_length_le m.o2.data.toList
    have q3 := putL_length6 1 m.ok
    clear hk
    go_wp2_with (first | ((with_reducible refine Hp.ld H ?_); refine ⟨rfl, ?_⟩; refine ⟨c_look rfl, ?_⟩; refine ⟨_, _, rfl, ?_⟩; ((repeat ((fail_if_success refine ⟨_, _, _, .z, ?_⟩); refine hs ?_)); refine ⟨_, _, _, .z, ?_⟩); refine ⟨_, rfl, ?_⟩; go_frame) | ((with_reducible refine Hp.lds H ?_); refine ⟨rfl, by kernel_rfl, ?_⟩; refine ⟨_, s_look rfl, ?_⟩; refine ⟨_, _, rfl, ?_⟩; ((repeat ((fail_if_success refine ⟨_, _, _, .z, ?_⟩); refine hs ?_)); refine ⟨_, _, _, .z, ?_⟩); (first | refine ⟨baC m.br m.bp, rfl, rfl, ?_⟩ | refine ⟨enC m.e, rfl, rfl, ?_⟩ | refine ⟨opC m.ok m.o0 m.o1 m.o2, rfl, rfl, ?_⟩); go_frame) | ((with_reducible refine (rbytes_any m.e hN.se _).mono ?_); rintro _ w1 ⟨Ae, ce, rfl, hown, hb⟩; replace H := (H.callOwn hb hown).rot2; clear hb hown) | (at_builtin; refine H.wlAppendBytes rfl _ _ rfl 1 _ _ _ _ (by rfl) rfl (by first | rfl | omega | (simp only [List.length_append, List.length_cons, List.length_nil]; first | done | omega)) _ _ _ _ (by rfl) (by first | rfl | omega | (simp only [List.length_append, List.length_cons, List.length_nil]; first | done | omega)) (H.o 0 rfl).rd (by first | omega | (simp only [List.length_append, List.length_cons, List.length_nil]; omega)) ?_; (clear H; intro Ay cy w1 H); simp only [List.set_cons_succ, List.set_cons_zero] at H; replace H := H.tail) | (at_builtin; refine H.wlAppendBytes rfl _ _ rfl 0 _ _ _ _ (by rfl) rfl (by first | rfl | omega | (simp only [List.length_append, List.length_cons, List.length_nil]; first | done | omega)) _ _ _ _ (by rfl) (by first | rfl | omega | (simp only [List.length_append, List.length_cons, List.length_nil]; first | done | omega)) (H.o 5 rfl).rd (by first | omega | (simp only [List.length_append, List.length_cons, List.length_nil]; omega)) ?_; (clear H; intro Ay cy w1 H); simp only [List.set_cons_succ, List.set_cons_zero] at H) | ((with_reducible refine (HOP.out _).mono ?_); rintro _ w1 ⟨Ax, cx, rfl, hown, hb⟩; replace H := H.callOwn hb hown; clear hb hown))
    go_ret2
    have hL : prL m rs l = hd ++ fieldsL (lets m.k) m rs l := by unfold prL; rw [HHD.out]
    rw [HF.out] at hL
    refine ⟨Ay, cy, ?_, ?_, H.below⟩
    · refine ret_pair ?_; rw [hL]; simp only [List.length_append, List.length_cons, List.length_nil, hdl]; first | done | omega
    · rw [hL]; simpa only [List.append_assoc, List.cons_append, List.nil_append, List.append_nil] using H.o 0 rfl
  · have b1 : (m.k == 1) = false := by rw [hk]; rfl
    have b2 : (m.k == 2) = true := by rw [hk]; rfl
    have b3 : (m.k == 3) = false := by rw [hk]; rfl
    have b4 : (m.k == 4) = false := by rw [hk]; rfl
    have b5 : (m.k == 5) = false := by rw [hk]; rfl
    have b6 : (m.k == 6) = false := by rw [hk]; rfl
    have b7 : (m.k == 7) = false := by rw [hk]; rfl
    have b8 : (m.k == 8) = false := by rw [hk]; rfl
    have b9 : (m.k == 9) = false := by rw [hk]; rfl
    have b10 : (m.k == 10) = false := by rw [hk]; rfl
    have b11 : (m.k == 11) = false := by rw [hk]; rfl
    have b12 : (m.k == 12) = false := by rw [hk]; rfl
    have b13 : (m.k == 13) = false := by rw [hk]; rfl
    have b14 : (m.k == 14) = false := by rw [hk]; rfl
    have b15 : (m.k == 15) = false := by rw [hk]; rfl
    have HF : Hid (fieldsL (lets m.k) m rs l = putL 6 m.sq ++ ((putL 2 m.re ++ (putL 1 (if m.rf then 1 else 0) ++ textL m.rv.data.toList)))) := Lib.hid (by rw [hk]; show fieldL 115 m rs l ++ (fieldL 114 m rs l ++ []) = _; rw [List.append_nil]; rfl)
    obtain ⟨z0, z1, z2⟩ := may_reply hmay hk
    have HN2 := Lib.hid (fun w => rnum2 z0 z1 w)
    have HTX := Lib.hid (fun w => rtxt_any m.rv w z2)
    have q0 := textL_length_le m.rv.data.toList
    have q1 := putL_length6 2 m.re
    clear hk
    have HB1 : Hid ([Value.int .u8 1] = bvs [1]) := Lib.hid rfl
    have HB0 : Hid ([Value.int .u8 0] = bvs [0]) := Lib.hid rfl
    have q5 : putL 1 1 = [1] := by decide
    have q6 : putL 1 0 = [0] := by decide
    have HQ5 := Lib.hid q5
    have HQ6 := Lib.hid q6
    clear q5 q6
    go_wp2_with (first | ((with_reducible refine Hp.ld H ?_); refine ⟨rfl, ?_⟩; refine ⟨c_look rfl, ?_⟩; refine ⟨_, _, rfl, ?_⟩; ((repeat ((fail_if_success refine ⟨_, _, _, .z, ?_⟩); refine hs ?_)); refine ⟨_, _, _, .z, ?_⟩); refine ⟨_, rfl, ?_⟩; go_frame) | ((with_reducible refine Hp.lds H ?_); refine ⟨rfl, by kernel_rfl, ?_⟩; refine ⟨_, s_look rfl, ?_⟩; refine ⟨_, _, rfl, ?_⟩; ((repeat ((fail_if_success refine ⟨_, _, _, .z, ?_⟩); refine hs ?_)); refine ⟨_, _, _, .z, ?_⟩); (first | refine ⟨baC m.br m.bp, rfl, rfl, ?_⟩ | refine ⟨enC m.e, rfl, rfl, ?_⟩ | refine ⟨opC m.ok m.o0 m.o1 m.o2, rfl, rfl, ?_⟩); go_frame) | ((with_reducible refine (rbytes_any m.e hN.se _).mono ?_); rintro _ w1 ⟨Ae, ce, rfl, hown, hb⟩; replace H := (H.callOwn hb hown).rot2; clear hb hown) | (at_builtin; refine H.wlAppendBytes rfl _ _ rfl 1 _ _ _ _ (by rfl) rfl (by first | rfl | omega | (simp only [List.length_append, List.length_cons, List.length_nil]; first | done | omega)) _ _ _ _ (by rfl) (by first | rfl | omega | (simp only [List.length_append, List.length_cons, List.length_nil]; first | done | omega)) (H.o 0 rfl).rd (by first | omega | (simp only [List.length_append, List.length_cons, List.length_nil]; omega)) ?_; (clear H; intro Ay cy w1 H); simp only [List.set_cons_succ, List.set_cons_zero] at H; replace H := H.tail) | (at_builtin; refine H.wlAppendBytes rfl _ _ rfl 0 _ _ _ _ (by rfl) rfl (by first | rfl | omega | (simp only [List.length_append, List.length_cons, List.length_nil]; first | done | omega)) _ _ _ _ (by rfl) (by first | rfl | omega | (simp only [List.length_append, List.length_cons, List.length_nil]; first | done | omega)) (H.o 5 rfl).rd (by first | omega | (simp only [List.length_append, List.length_cons, List.length_nil]; omega)) ?_; (clear H; intro Ay cy w1 H); simp only [List.set_cons_succ, List.set_cons_zero] at H) | ((with_reducible refine (HN2.out _).mono ?_); rintro _ w1 ⟨Ax, cx, rfl, hown, hb⟩; replace H := H.callOwn hb hown; clear hb hown) | ((with_reducible refine (HTX.out _).mono ?_); rintro _ w1 ⟨Ax, cx, rfl, hown, hb⟩; replace H := H.callOwn hb hown; clear hb hown) | ((with_reducible refine Hp.bslB (parts := [_]) H ?_); refine ⟨rfl, rfl, rfl, _, rfl, [1], HB1.out, rfl, ?_⟩; (clear H; intro gx w1 H); go_frame) | ((with_reducible refine Hp.bslB (parts := [_]) H ?_); refine ⟨rfl, rfl, rfl, _, rfl, [0], HB0.out, rfl, ?_⟩; (clear H; intro gx w1 H); go_frame))
    · have hrf : m.rf = true := by first | assumption | simpa using ‹_›
      rw [hrf] at HF
      go_ret2
      have hL : prL m rs l = hd ++ fieldsL (lets m.k) m rs l := by unfold prL; rw [HHD.out]
      rw [HF.out] at hL
      simp only [if_true, if_false, Bool.false_eq_true, HQ5.out] at hL
      refine ⟨Ay, cy, ?_, ?_, H.below⟩
      · refine ret_pair ?_; rw [hL]; simp only [List.length_append, List.length_cons, List.length_nil, hdl]; first | done | omega
      · rw [hL]; simpa only [List.append_assoc, List.cons_append, List.nil_append, List.append_nil] using H.o 0 rfl
    · have hrf : m.rf = false := by first | assumption | simpa using ‹_›
      rw [hrf] at HF
      go_ret2
      have hL : prL m rs l = hd ++ fieldsL (lets m.k) m rs l := by unfold prL; rw [HHD.out]
      rw [HF.out] at hL
      simp only [if_true, if_false, Bool.false_eq_true, HQ6.out] at hL
      refine ⟨Ay, cy, ?_, ?_, H.below⟩
      · refine ret_pair ?_; rw [hL]; simp only [List.length_append, List.length_cons, List.length_nil, hdl]; first | done | omega
      · rw [hL]; simpa only [List.append_assoc, List.cons_append, List.nil_append, List.append_nil] using H.o 0 rfl
  · exact absurd hB (by rw [hk]; decide)
  · exact absurd hB (by rw [hk]; decide)
  · exact absurd hB (by rw [hk]; decide)
  · exact absurd hB (by rw [hk]; decide)
  · exact absurd hB (by rw [hk]; decide)
  · exact absurd hB (by rw [hk]; decide)
  · exact absurd hB (by rw [hk]; decide)
  · have b1 : (m.k == 1) = false := by rw [hk]; rfl
    have b2 : (m.k == 2) = false := by rw [hk]; rfl
    have b3 : (m.k == 3) = false := by rw [hk]; rfl
    have b4 : (m.k == 4) = false := by rw [hk]; rfl
    have b5 : (m.k == 5) = false := by rw [hk]; rfl
    have b6 : (m.k == 6) = false := by rw [hk]; rfl
    have b7 : (m.k == 7) = false := by rw [hk]; rfl
    have b8 : (m.k == 8) = false := by rw [hk]; rfl
    have b9 : (m.k == 9) = false := by rw [hk]; rfl
    have b10 : (m.k == 10) = true := by rw [hk]; rfl
    have b11 : (m.k == 11) = false := by rw [hk]; rfl
    have b12 : (m.k == 12) = false := by rw [hk]; rfl
    have b13 : (m.k == 13) = false := by rw [hk]; rfl
    have b14 : (m.k == 14) = false := by rw [hk]; rfl
    have b15 : (m.k == 15) = false := by rw [hk]; rfl
    have HF : Hid (fieldsL (lets m.k) m rs l = putL 6 m.ix) := Lib.hid (by rw [hk]; show fieldL 105 m rs l ++ [] = _; rw [List.append_nil]; rfl)
    clear hk
    go_wp2_with (first | ((with_reducible refine Hp.ld H ?_); refine ⟨rfl, ?_⟩; refine ⟨c_look rfl, ?_⟩; refine ⟨_, _, rfl, ?_⟩; ((repeat ((fail_if_success refine ⟨_, _, _, .z, ?_⟩); refine hs ?_)); refine ⟨_, _, _, .z, ?_⟩); refine ⟨_, rfl, ?_⟩; go_frame) | ((with_reducible refine Hp.lds H ?_); refine ⟨rfl, by kernel_rfl, ?_⟩; refine ⟨_, s_look rfl, ?_⟩; refine ⟨_, _, rfl, ?_⟩; ((repeat ((fail_if_success refine ⟨_, _, _, .z, ?_⟩); refine hs ?_)); refine ⟨_, _, _, .z, ?_⟩); (first | refine ⟨baC m.br m.bp, rfl, rfl, ?_⟩ | refine ⟨enC m.e, rfl, rfl, ?_⟩ | refine ⟨opC m.ok m.o0 m.o1 m.o2, rfl, rfl, ?_⟩); go_frame) | ((with_reducible refine (rbytes_any m.e hN.se _).mono ?_); rintro _ w1 ⟨Ae, ce, rfl, hown, hb⟩; replace H := (H.callOwn hb hown).rot2; clear hb hown) | (at_builtin; refine H.wlAppendBytes rfl _ _ rfl 0 _ _ _ _ (by rfl) rfl (by first | rfl | omega | (simp only [List.length_append, List.length_cons, List.length_nil]; first | done | omega)) _ _ _ _ (by rfl) (by first | rfl | omega | (simp only [List.length_append, List.length_cons, List.length_nil]; first | done | omega)) (H.o 2 rfl).rd (by first | omega | (simp only [List.length_append, List.length_cons, List.length_nil]; omega)) ?_; (clear H; intro Ay cy w1 H); simp only [List.set_cons_succ, List.set_cons_zero] at H))
    go_ret2
    have hL : prL m rs l = hd ++ fieldsL (lets m.k) m rs l := by unfold prL; rw [HHD.out]
    rw [HF.out] at hL
    refine ⟨Ay, cy, ?_, ?_, H.below⟩
    · refine ret_pair ?_; rw [hL]; simp only [List.length_append, List.length_cons, List.length_nil, hdl]; first | done | omega
    · rw [hL]; simpa only [List.append_assoc, List.cons_append, List.nil_append, List.append_nil] using H.o 0 rfl
  · exact absurd hB (by rw [hk]; decide)
  · have b1 : (m.k == 1) = false := by rw [hk]; rfl
    have b2 : (m.k == 2) = false := by rw [hk]; rfl
    have b3 : (m.k == 3) = false := by rw [hk]; rfl
    have b4 : (m.k == 4) = false := by rw [hk]; rfl
    have b5 : (m.k == 5) = false := by rw [hk]; rfl
    have b6 : (m.k == 6) = false := by rw [hk]; rfl
    have b7 : (m.k == 7) = false := by rw [hk]; rfl
    have b8 : (m.k == 8) = false := by rw [hk]; rfl
    have b9 : (m.k == 9) = false := by rw [hk]; rfl
    have b10 : (m.k == 10) = false := by rw [hk]; rfl
    have b11 : (m.k == 11) = false := by rw [hk]; rfl
    have b12 : (m.k == 12) = true := by rw [hk]; rfl
    have b13 : (m.k == 13) = false := by rw [hk]; rfl
    have b14 : (m.k == 14) = false := by rw [hk]; rfl
    have b15 : (m.k == 15) = false := by rw [hk]; rfl
    have HF : Hid (fieldsL (lets m.k) m rs l = putL 6 m.ix ++ (putL 1 m.ck)) := Lib.hid (by rw [hk]; show fieldL 122 m rs l ++ (fieldL 107 m rs l ++ []) = _; rw [List.append_nil]; rfl)
    obtain ⟨z0, z1⟩ := may_ck hmay (by omega)
    have zw : IntKind.u8.wrap m.ck = m.ck := by unfold IntKind.wrap; simp [IntKind.signed, IntKind.bits]; omega
    have HB1 : Hid ([Value.int .u8 m.ck] = bvs [UInt8.ofNat m.ck.toNat]) := Lib.hid (by show _ = [Value.int .u8 ((UInt8.ofNat m.ck.toNat).toNat : Int)]; rw [u8_back z0 (by omega)])
    have HP1 : Hid (putL 1 m.ck = [UInt8.ofNat m.ck.toNat]) := Lib.hid (put1 z0 (by omega))
    clear hk
    go_wp2_with (first | ((with_reducible refine Hp.ld H ?_); refine ⟨rfl, ?_⟩; refine ⟨c_look rfl, ?_⟩; refine ⟨_, _, rfl, ?_⟩; ((repeat ((fail_if_success refine ⟨_, _, _, .z, ?_⟩); refine hs ?_)); refine ⟨_, _, _, .z, ?_⟩); refine ⟨_, rfl, ?_⟩; go_frame) | ((with_reducible refine Hp.lds H ?_); refine ⟨rfl, by kernel_rfl, ?_⟩; refine ⟨_, s_look rfl, ?_⟩; refine ⟨_, _, rfl, ?_⟩; ((repeat ((fail_if_success refine ⟨_, _, _, .z, ?_⟩); refine hs ?_)); refine ⟨_, _, _, .z, ?_⟩); (first | refine ⟨baC m.br m.bp, rfl, rfl, ?_⟩ | refine ⟨enC m.e, rfl, rfl, ?_⟩ | refine ⟨opC m.ok m.o0 m.o1 m.o2, rfl, rfl, ?_⟩); go_frame) | ((with_reducible refine (rbytes_any m.e hN.se _).mono ?_); rintro _ w1 ⟨Ae, ce, rfl, hown, hb⟩; replace H := (H.callOwn hb hown).rot2; clear hb hown) | (at_builtin; refine H.wlAppendBytes rfl _ _ rfl 1 _ _ _ _ (by rfl) rfl (by first | rfl | omega | (simp only [List.length_append, List.length_cons, List.length_nil]; first | done | omega)) _ _ _ _ (by rfl) (by first | rfl | omega | (simp only [List.length_append, List.length_cons, List.length_nil]; first | done | omega)) (H.o 0 rfl).rd (by first | omega | (simp only [List.length_append, List.length_cons, List.length_nil]; omega)) ?_; (clear H; intro Ay cy w1 H); simp only [List.set_cons_succ, List.set_cons_zero] at H; replace H := H.tail) | (at_builtin; refine H.wlAppendBytes rfl _ _ rfl 0 _ _ _ _ (by rfl) rfl (by first | rfl | omega | (simp only [List.length_append, List.length_cons, List.length_nil]; first | done | omega)) _ _ _ _ (by rfl) (by first | rfl | omega | (simp only [List.length_append, List.length_cons, List.length_nil]; first | done | omega)) (H.o 2 rfl).rd (by first | omega | (simp only [List.length_append, List.length_cons, List.length_nil]; omega)) ?_; (clear H; intro Ay cy w1 H); simp only [List.set_cons_succ, List.set_cons_zero] at H) | ((with_reducible refine Hp.bslB (parts := [_]) H ?_); refine ⟨rfl, rfl, rfl, _, rfl, [UInt8.ofNat m.ck.toNat], HB1.out, rfl, ?_⟩; (clear H; intro gx w1 H); go_frame))
    go_ret2
    have hL : prL m rs l = hd ++ fieldsL (lets m.k) m rs l := by unfold prL; rw [HHD.out]
    rw [HF.out, HP1.out] at hL
    refine ⟨Ay, cy, ?_, ?_, H.below⟩
    · refine ret_pair ?_; rw [hL]; simp only [List.length_append, List.length_cons, List.length_nil, hdl]; first | done | omega
    · rw [hL]; simpa only [List.append_assoc, List.cons_append, List.nil_append, List.append_nil] using H.o 0 rfl
  · have b1 : (m.k == 1) = false := by rw [hk]; rfl
    have b2 : (m.k == 2) = false := by rw [hk]; rfl
    have b3 : (m.k == 3) = false := by rw [hk]; rfl
    have b4 : (m.k == 4) = false := by rw [hk]; rfl
    have b5 : (m.k == 5) = false := by rw [hk]; rfl
    have b6 : (m.k == 6) = false := by rw [hk]; rfl
    have b7 : (m.k == 7) = false := by rw [hk]; rfl
    have b8 : (m.k == 8) = false := by rw [hk]; rfl
    have b9 : (m.k == 9) = false := by rw [hk]; rfl
    have b10 : (m.k == 10) = false := by rw [hk]; rfl
    have b11 : (m.k == 11) = false := by rw [hk]; rfl
    have b12 : (m.k == 12) = false := by rw [hk]; rfl
    have b13 : (m.k == 13) = true := by rw [hk]; rfl
    have b14 : (m.k == 14) = false := by rw [hk]; rfl
    have b15 : (m.k == 15) = false := by rw [hk]; rfl
    have HF : Hid (fieldsL (lets m.k) m rs l = putL 6 m.ix ++ (putL 1 m.ck ++ (putL 1 m.ct ++ (textL l)))) := Lib.hid (by rw [hk]; show fieldL 122 m rs l ++ (fieldL 107 m rs l ++ (fieldL 109 m rs l ++ (fieldL 121 m rs l ++ []))) = _; rw [List.append_nil]; rfl)
    obtain ⟨z0, z1⟩ := may_ck hmay (by omega)
    have zw : IntKind.u8.wrap m.ck = m.ck := by unfold IntKind.wrap; simp [IntKind.signed, IntKind.bits]; omega
    obtain ⟨z2, z3⟩ := may_ct hmay hk
    obtain ⟨z4, z5⟩ := may_by hmay hk hR.n2
    have zx : IntKind.u8.wrap m.ct = m.ct := by unfold IntKind.wrap; simp [IntKind.signed, IntKind.bits]; omega
    have HB1 : Hid ([Value.int .u8 m.ck, .int .u8 m.ct] = bvs [UInt8.ofNat m.ck.toNat, UInt8.ofNat m.ct.toNat]) := Lib.hid (by show _ = [Value.int .u8 ((UInt8.ofNat m.ck.toNat).toNat : Int), .int .u8 ((UInt8.ofNat m.ct.toNat).toNat : Int)]; rw [u8_back z0 (by omega), u8_back z2 (by omega)])
    have HP1 : Hid (putL 1 m.ck = [UInt8.ofNat m.ck.toNat]) := Lib.hid (put1 z0 (by omega))
    have HP2 : Hid (putL 1 m.ct = [UInt8.ofNat m.ct.toNat]) := Lib.hid (put1 z2 (by omega))
    have HTX := Lib.hid (fun w => rtxt_any ⟨l.toArray⟩ w (show l.length ≤ 255 by omega))
    have q0 := textL_length_le l
    have HTL : Hid (textL (⟨l.toArray⟩ : ByteArray).data.toList = textL l) := Lib.hid rfl
    clear hk
    go_wp2_with (first | ((with_reducible refine Hp.ld H ?_); refine ⟨rfl, ?_⟩; refine ⟨c_look rfl, ?_⟩; refine ⟨_, _, rfl, ?_⟩; ((repeat ((fail_if_success refine ⟨_, _, _, .z, ?_⟩); refine hs ?_)); refine ⟨_, _, _, .z, ?_⟩); refine ⟨_, rfl, ?_⟩; go_frame) | ((with_reducible refine Hp.lds H ?_); refine ⟨rfl, by kernel_rfl, ?_⟩; refine ⟨_, s_look rfl, ?_⟩; refine ⟨_, _, rfl, ?_⟩; ((repeat ((fail_if_success refine ⟨_, _, _, .z, ?_⟩); refine hs ?_)); refine ⟨_, _, _, .z, ?_⟩); (first | refine ⟨baC m.br m.bp, rfl, rfl, ?_⟩ | refine ⟨enC m.e, rfl, rfl, ?_⟩ | refine ⟨opC m.ok m.o0 m.o1 m.o2, rfl, rfl, ?_⟩); go_frame) | ((with_reducible refine (rbytes_any m.e hN.se _).mono ?_); rintro _ w1 ⟨Ae, ce, rfl, hown, hb⟩; replace H := (H.callOwn hb hown).rot2; clear hb hown) | (at_builtin; refine H.wlAppendBytes rfl _ _ rfl 1 _ _ _ _ (by rfl) rfl (by first | rfl | omega | (simp only [List.length_append, List.length_cons, List.length_nil]; first | done | omega)) _ _ _ _ (by rfl) (by first | rfl | omega | (simp only [List.length_append, List.length_cons, List.length_nil]; first | done | omega)) (H.o 0 rfl).rd (by first | omega | (simp only [List.length_append, List.length_cons, List.length_nil]; omega)) ?_; (clear H; intro Ay cy w1 H); simp only [List.set_cons_succ, List.set_cons_zero] at H; replace H := H.tail) | (at_builtin; refine H.wlAppendBytes rfl _ _ rfl 0 _ _ _ _ (by rfl) rfl (by first | rfl | omega | (simp only [List.length_append, List.length_cons, List.length_nil]; first | done | omega)) _ _ _ _ (by rfl) (by first | rfl | omega | (simp only [List.length_append, List.length_cons, List.length_nil]; first | done | omega)) (H.o 2 rfl).rd (by first | omega | (simp only [List.length_append, List.length_cons, List.length_nil]; omega)) ?_; (clear H; intro Ay cy w1 H); simp only [List.set_cons_succ, List.set_cons_zero] at H) | ((with_reducible refine Hp.bslB (parts := [_, _]) H ?_); refine ⟨rfl, rfl, rfl, _, rfl, [UInt8.ofNat m.ck.toNat, UInt8.ofNat m.ct.toNat], HB1.out, rfl, ?_⟩; (clear H; intro gx w1 H); go_frame) | ((with_reducible refine Hp.cvS H ?_); refine ⟨rfl, _, _, _, rfl, l, (hR.yr.below H.below), hR.n2, ?_⟩; go_frame) | ((with_reducible refine (HTX.out _).mono ?_); rintro _ w1 ⟨Ax, cx, rfl, hown, hb⟩; replace H := H.callOwn hb hown; clear hb hown))
    go_ret2
    have hL : prL m rs l = hd ++ fieldsL (lets m.k) m rs l := by unfold prL; rw [HHD.out]
    rw [HF.out, HP1.out, HP2.out] at hL
    refine ⟨Ay, cy, ?_, ?_, H.below⟩
    · refine ret_pair ?_; rw [hL]; simp only [List.length_append, List.length_cons, List.length_nil, hdl]; first | done | omega
    · rw [hL]; simpa only [List.append_assoc, List.cons_append, List.nil_append, List.append_nil] using H.o 0 rfl
  · have b1 : (m.k == 1) = false := by rw [hk]; rfl
    have b2 : (m.k == 2) = false := by rw [hk]; rfl
    have b3 : (m.k == 3) = false := by rw [hk]; rfl
    have b4 : (m.k == 4) = false := by rw [hk]; rfl
    have b5 : (m.k == 5) = false := by rw [hk]; rfl
    have b6 : (m.k == 6) = false := by rw [hk]; rfl
    have b7 : (m.k == 7) = false := by rw [hk]; rfl
    have b8 : (m.k == 8) = false := by rw [hk]; rfl
    have b9 : (m.k == 9) = false := by rw [hk]; rfl
    have b10 : (m.k == 10) = false := by rw [hk]; rfl
    have b11 : (m.k == 11) = false := by rw [hk]; rfl
    have b12 : (m.k == 12) = false := by rw [hk]; rfl
    have b13 : (m.k == 13) = false := by rw [hk]; rfl
    have b14 : (m.k == 14) = true := by rw [hk]; rfl
    have b15 : (m.k == 15) = false := by rw [hk]; rfl
    have HF : Hid (fieldsL (lets m.k) m rs l = putL 6 m.ix) := Lib.hid (by rw [hk]; show fieldL 105 m rs l ++ [] = _; rw [List.append_nil]; rfl)
    clear hk
    go_wp2_with (first | ((with_reducible refine Hp.ld H ?_); refine ⟨rfl, ?_⟩; refine ⟨c_look rfl, ?_⟩; refine ⟨_, _, rfl, ?_⟩; ((repeat ((fail_if_success refine ⟨_, _, _, .z, ?_⟩); refine hs ?_)); refine ⟨_, _, _, .z, ?_⟩); refine ⟨_, rfl, ?_⟩; go_frame) | ((with_reducible refine Hp.lds H ?_); refine ⟨rfl, by kernel_rfl, ?_⟩; refine ⟨_, s_look rfl, ?_⟩; refine ⟨_, _, rfl, ?_⟩; ((repeat ((fail_if_success refine ⟨_, _, _, .z, ?_⟩); refine hs ?_)); refine ⟨_, _, _, .z, ?_⟩); (first | refine ⟨baC m.br m.bp, rfl, rfl, ?_⟩ | refine ⟨enC m.e, rfl, rfl, ?_⟩ | refine ⟨opC m.ok m.o0 m.o1 m.o2, rfl, rfl, ?_⟩); go_frame) | ((with_reducible refine (rbytes_any m.e hN.se _).mono ?_); rintro _ w1 ⟨Ae, ce, rfl, hown, hb⟩; replace H := (H.callOwn hb hown).rot2; clear hb hown) | (at_builtin; refine H.wlAppendBytes rfl _ _ rfl 0 _ _ _ _ (by rfl) rfl (by first | rfl | omega | (simp only [List.length_append, List.length_cons, List.length_nil]; first | done | omega)) _ _ _ _ (by rfl) (by first | rfl | omega | (simp only [List.length_append, List.length_cons, List.length_nil]; first | done | omega)) (H.o 2 rfl).rd (by first | omega | (simp only [List.length_append, List.length_cons, List.length_nil]; omega)) ?_; (clear H; intro Ay cy w1 H); simp only [List.set_cons_succ, List.set_cons_zero] at H))
    go_ret2
    have hL : prL m rs l = hd ++ fieldsL (lets m.k) m rs l := by unfold prL; rw [HHD.out]
    rw [HF.out] at hL
    refine ⟨Ay, cy, ?_, ?_, H.below⟩
    · refine ret_pair ?_; rw [hL]; simp only [List.length_append, List.length_cons, List.length_nil, hdl]; first | done | omega
    · rw [hL]; simpa only [List.append_assoc, List.cons_append, List.nil_append, List.append_nil] using H.o 0 rfl
  · have b1 : (m.k == 1) = false := by rw [hk]; rfl
    have b2 : (m.k == 2) = false := by rw [hk]; rfl
    have b3 : (m.k == 3) = false := by rw [hk]; rfl
    have b4 : (m.k == 4) = false := by rw [hk]; rfl
    have b5 : (m.k == 5) = false := by rw [hk]; rfl
    have b6 : (m.k == 6) = false := by rw [hk]; rfl
    have b7 : (m.k == 7) = false := by rw [hk]; rfl
    have b8 : (m.k == 8) = false := by rw [hk]; rfl
    have b9 : (m.k == 9) = false := by rw [hk]; rfl
    have b10 : (m.k == 10) = false := by rw [hk]; rfl
    have b11 : (m.k == 11) = false := by rw [hk]; rfl
    have b12 : (m.k == 12) = false := by rw [hk]; rfl
    have b13 : (m.k == 13) = false := by rw [hk]; rfl
    have b14 : (m.k == 14) = false := by rw [hk]; rfl
    have b15 : (m.k == 15) = true := by rw [hk]; rfl
    have HF : Hid (fieldsL (lets m.k) m rs l = putL 6 m.ix ++ (putL 1 m.ck)) := Lib.hid (by rw [hk]; show fieldL 122 m rs l ++ (fieldL 107 m rs l ++ []) = _; rw [List.append_nil]; rfl)
    obtain ⟨z0, z1⟩ := may_ck hmay (by omega)
    have zw : IntKind.u8.wrap m.ck = m.ck := by unfold IntKind.wrap; simp [IntKind.signed, IntKind.bits]; omega
    have HB1 : Hid ([Value.int .u8 m.ck] = bvs [UInt8.ofNat m.ck.toNat]) := Lib.hid (by show _ = [Value.int .u8 ((UInt8.ofNat m.ck.toNat).toNat : Int)]; rw [u8_back z0 (by omega)])
    have HP1 : Hid (putL 1 m.ck = [UInt8.ofNat m.ck.toNat]) := Lib.hid (put1 z0 (by omega))
    clear hk
    go_wp2_with (first | ((with_reducible refine Hp.ld H ?_); refine ⟨rfl, ?_⟩; refine ⟨c_look rfl, ?_⟩; refine ⟨_, _, rfl, ?_⟩; ((repeat ((fail_if_success refine ⟨_, _, _, .z, ?_⟩); refine hs ?_)); refine ⟨_, _, _, .z, ?_⟩); refine ⟨_, rfl, ?_⟩; go_frame) | ((with_reducible refine Hp.lds H ?_); refine ⟨rfl, by kernel_rfl, ?_⟩; refine ⟨_, s_look rfl, ?_⟩; refine ⟨_, _, rfl, ?_⟩; ((repeat ((fail_if_success refine ⟨_, _, _, .z, ?_⟩); refine hs ?_)); refine ⟨_, _, _, .z, ?_⟩); (first | refine ⟨baC m.br m.bp, rfl, rfl, ?_⟩ | refine ⟨enC m.e, rfl, rfl, ?_⟩ | refine ⟨opC m.ok m.o0 m.o1 m.o2, rfl, rfl, ?_⟩); go_frame) | ((with_reducible refine (rbytes_any m.e hN.se _).mono ?_); rintro _ w1 ⟨Ae, ce, rfl, hown, hb⟩; replace H := (H.callOwn hb hown).rot2; clear hb hown) | (at_builtin; refine H.wlAppendBytes rfl _ _ rfl 1 _ _ _ _ (by rfl) rfl (by first | rfl | omega | (simp only [List.length_append, List.length_cons, List.length_nil]; first | done | omega)) _ _ _ _ (by rfl) (by first | rfl | omega | (simp only [List.length_append, List.length_cons, List.length_nil]; first | done | omega)) (H.o 0 rfl).rd (by first | omega | (simp only [List.length_append, List.length_cons, List.length_nil]; omega)) ?_; (clear H; intro Ay cy w1 H); simp only [List.set_cons_succ, List.set_cons_zero] at H; replace H := H.tail) | (at_builtin; refine H.wlAppendBytes rfl _ _ rfl 0 _ _ _ _ (by rfl) rfl (by first | rfl | omega | (simp only [List.length_append, List.length_cons, List.length_nil]; first | done | omega)) _ _ _ _ (by rfl) (by first | rfl | omega | (simp only [List.length_append, List.length_cons, List.length_nil]; first | done | omega)) (H.o 2 rfl).rd (by first | omega | (simp only [List.length_append, List.length_cons, List.length_nil]; omega)) ?_; (clear H; intro Ay cy w1 H); simp only [List.set_cons_succ, List.set_cons_zero] at H) | ((with_reducible refine Hp.bslB (parts := [_]) H ?_); refine ⟨rfl, rfl, rfl, _, rfl, [UInt8.ofNat m.ck.toNat], HB1.out, rfl, ?_⟩; (clear H; intro gx w1 H); go_frame))
    go_ret2
    have hL : prL m rs l = hd ++ fieldsL (lets m.k) m rs l := by unfold prL; rw [HHD.out]
    rw [HF.out, HP1.out] at hL
    refine ⟨Ay, cy, ?_, ?_, H.below⟩
    · refine ret_pair ?_; rw [hL]; simp only [List.length_append, List.length_cons, List.length_nil, hdl]; first | done | omega
    · rw [hL]; simpa only [List.append_assoc, List.cons_append, List.nil_append, List.append_nil] using H.o 0 rfl
theorem mrprint_any (m : Mg) (rs : List Rp) (l : List UInt8) (n : Int) (w : World) (hN : MgN m) (hR : MgR w m rs l) (hn1 : -9223372036854775808 ≤ n) (hn2 : n ≤ 9223372036854775807) : Calls Tryd.prog 11 #[.agg (mgC m).toArray, .int .i64 n] w (RetBI w (printL m rs l n) (printE m rs l n)) := by
  cases hmay : mayM m rs l n
  · exact mrprint_no m rs l n w hN hR hn1 hn2 hmay
  · cases hB : hasB m.k
    · exact mrprint_nob m rs l n w hN hR hn1 hn2 hmay hB
    · exact mrprint_bal m rs l n w hN hR hn1 hn2 hmay hB
end Go.Proofs.YtajgikjmoeemnaaDoor
