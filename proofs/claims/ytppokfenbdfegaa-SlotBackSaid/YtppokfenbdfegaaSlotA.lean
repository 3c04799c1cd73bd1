/-
  THE WALKS OF slot/slot.go AND ITS REFERENCE: Print.
-/
import Derived.Test.YtppokfenbdfegaaSlotPlain
namespace Go.Proofs.Ytppokfenbdfegaa
open Go.RowKit
set_option linter.unusedVariables false
attribute [local go_sem] BW_cell BW_frozen

set_option maxHeartbeats 1000000 in
theorem sprint_0 (ro rp wh : Int) (w : World)  (h0 : ro < 1) : Calls Try.prog 8 #[.agg #[.int .i64 ro, .int .i64 rp], .int .i64 wh] w (RetBI w [] 2) := by
  go_enter Try.func8, Try.ntmps8
  go_wp2_with fail
  go_ret2
  exact ⟨none, 0, rfl, Own.none_ _ _, bal0 _ _⟩
set_option maxHeartbeats 1000000 in
theorem sprint_1 (ro rp wh : Int) (w : World) (h0 : ¬ ro < 1) (h1 : 1099511627776 < ro) : Calls Try.prog 8 #[.agg #[.int .i64 ro, .int .i64 rp], .int .i64 wh] w (RetBI w [] 2) := by
  have g0 : decide (ro < 1) = false := decide_eq_false h0
  go_enter Try.func8, Try.ntmps8
  go_wp2_with fail
  go_ret2
  exact ⟨none, 0, rfl, Own.none_ _ _, bal0 _ _⟩
set_option maxHeartbeats 1000000 in
theorem sprint_2 (ro rp wh : Int) (w : World) (h0 : ¬ ro < 1) (h1 : ¬ 1099511627776 < ro) (h2 : rp < 0) : Calls Try.prog 8 #[.agg #[.int .i64 ro, .int .i64 rp], .int .i64 wh] w (RetBI w [] 2) := by
  have g0 : decide (ro < 1) = false := decide_eq_false h0
  have g1 : decide (1099511627776 < ro) = false := decide_eq_false h1
  go_enter Try.func8, Try.ntmps8
  go_wp2_with fail
  go_ret2
  exact ⟨none, 0, rfl, Own.none_ _ _, bal0 _ _⟩
set_option maxHeartbeats 1000000 in
theorem sprint_3 (ro rp wh : Int) (w : World) (h0 : ¬ ro < 1) (h1 : ¬ 1099511627776 < ro) (h2 : ¬ rp < 0) (h3 : 7 ≤ rp) : Calls Try.prog 8 #[.agg #[.int .i64 ro, .int .i64 rp], .int .i64 wh] w (RetBI w [] 2) := by
  have g0 : decide (ro < 1) = false := decide_eq_false h0
  have g1 : decide (1099511627776 < ro) = false := decide_eq_false h1
  have g2 : decide (rp < 0) = false := decide_eq_false h2
  go_enter Try.func8, Try.ntmps8
  go_wp2_with fail
  go_ret2
  exact ⟨none, 0, rfl, Own.none_ _ _, bal0 _ _⟩
set_option maxHeartbeats 1000000 in
theorem sprint_4 (ro rp wh : Int) (w : World) (h0 : ¬ ro < 1) (h1 : ¬ 1099511627776 < ro) (h2 : ¬ rp < 0) (h3 : ¬ 7 ≤ rp) (h4 : (wh != 0) = true) (h5 : (wh != 1) = true) : Calls Try.prog 8 #[.agg #[.int .i64 ro, .int .i64 rp], .int .i64 wh] w (RetBI w [] 2) := by
  have g0 : decide (ro < 1) = false := decide_eq_false h0
  have g1 : decide (1099511627776 < ro) = false := decide_eq_false h1
  have g2 : decide (rp < 0) = false := decide_eq_false h2
  have g3 : decide (7 ≤ rp) = false := decide_eq_false h3
  go_enter Try.func8, Try.ntmps8
  go_wp2_with fail
  go_ret2
  exact ⟨none, 0, rfl, Own.none_ _ _, bal0 _ _⟩
set_option maxHeartbeats 1000000 in
theorem sprint_5 (ro rp wh : Int) (w : World) (a0 : 1 ≤ ro) (a1 : ro ≤ 1099511627776) (a2 : 0 ≤ rp) (a3 : rp ≤ 6) (hw : wh = 0 ∨ wh = 1) : Calls Try.prog 8 #[.agg #[.int .i64 ro, .int .i64 rp], .int .i64 wh] w (RetBI w (putL 6 ro ++ [UInt8.ofNat rp.toNat, UInt8.ofNat wh.toNat]) 0) := by
  have g0 : decide (ro < 1) = false := decide_eq_false (by omega)
  have g1 : decide (1099511627776 < ro) = false := decide_eq_false (by omega)
  have g2 : decide (rp < 0) = false := decide_eq_false (by omega)
  have g3 : decide (7 ≤ rp) = false := decide_eq_false (by omega)
  have q := putL_length6 6 ro
  rcases hw with rfl | rfl
  · go_enter Try.func8, Try.ntmps8
    go_wp2_with fail
    refine (put_any 6 ro _).mono ?_
    rintro e w1 ⟨A1, c1, rfl, hown, hb⟩
    have B1 := (Blk.new w 23 #[.int .i64 ro, .int .i64 rp]).bel hb
    have k1 := B1.c 1 (.int .i64 rp) rfl
    have hbb : Below w.heap.size w w1 := bac hb
    have hbz : w.heap.size ≤ w1.heap.size + 1 := by have := hbb.size; omega
    have hb0 : w.heap.size ≤ (World.alloc w (.cells #[.int .i64 ro, .int .i64 rp] 23)).heap.size := by simp
    have hrd := rd_lit w1 [UInt8.ofNat rp.toNat, 0] #[.int .u8 rp, .int .u8 0] (by simp [bvs]; omega)
    have hown2 : Own (w1.alloc (.cells #[.int .u8 rp, .int .u8 0] 5)) w.heap.size A1 c1 (putL 6 ro) := (hown.mono hb0).alloc _
    have hlen : (putL 6 ro).length + [UInt8.ofNat rp.toNat, 0].length ≤ 140737488355328 := by simp; omega
    clear hown hb0
    go_wp2_with (at_builtin; refine wpList_append_bytes _ rfl _ _ rfl w.heap.size A1 _ c1 _ rfl rfl hown2 _ 2 2 [UInt8.ofNat rp.toNat, 0] rfl rfl hrd hlen (by simpa using hbz) ?_; intro A2 c2 w2 hown3 hb3 _)
    go_ret2
    exact retBI_mk (by simp) hown3 ((bal hbb _).trans hb3)
  · go_enter Try.func8, Try.ntmps8
    go_wp2_with fail
    refine (put_any 6 ro _).mono ?_
    rintro e w1 ⟨A1, c1, rfl, hown, hb⟩
    have B1 := (Blk.new w 23 #[.int .i64 ro, .int .i64 rp]).bel hb
    have k1 := B1.c 1 (.int .i64 rp) rfl
    have hbb : Below w.heap.size w w1 := bac hb
    have hbz : w.heap.size ≤ w1.heap.size + 1 := by have := hbb.size; omega
    have hb0 : w.heap.size ≤ (World.alloc w (.cells #[.int .i64 ro, .int .i64 rp] 23)).heap.size := by simp
    have hrd := rd_lit w1 [UInt8.ofNat rp.toNat, 1] #[.int .u8 rp, .int .u8 1] (by simp [bvs]; omega)
    have hown2 : Own (w1.alloc (.cells #[.int .u8 rp, .int .u8 1] 5)) w.heap.size A1 c1 (putL 6 ro) := (hown.mono hb0).alloc _
    have hlen : (putL 6 ro).length + [UInt8.ofNat rp.toNat, 1].length ≤ 140737488355328 := by simp; omega
    clear hown hb0
    go_wp2_with (at_builtin; refine wpList_append_bytes _ rfl _ _ rfl w.heap.size A1 _ c1 _ rfl rfl hown2 _ 2 2 [UInt8.ofNat rp.toNat, 1] rfl rfl hrd hlen (by simpa using hbz) ?_; intro A2 c2 w2 hown3 hb3 _)
    go_ret2
    exact retBI_mk (by simp) hown3 ((bal hbb _).trans hb3)
theorem sprint_any (ro rp wh : Int) (w : World) : Calls Try.prog 8 #[.agg #[.int .i64 ro, .int .i64 rp], .int .i64 wh] w (RetBI w (sloL ro rp wh) (sloE ro rp wh)) := by
  by_cases h : sloB ro rp wh = true
  · have hb := sloB_true h
    rw [show sloL ro rp wh = putL 6 ro ++ [UInt8.ofNat rp.toNat, UInt8.ofNat wh.toNat] by simp [sloL, h], show sloE ro rp wh = 0 by simp [sloE, h]]
    exact sprint_5 ro rp wh w (by omega) (by omega) (by omega) (by omega) (by omega)
  · rw [show sloL ro rp wh = [] by simp [sloL, h], show sloE ro rp wh = 2 by simp [sloE, h]]
    by_cases h0 : ro < 1
    · exact sprint_0 ro rp wh w h0
    by_cases h1 : 1099511627776 < ro
    · exact sprint_1 ro rp wh w h0 h1
    by_cases h2 : rp < 0
    · exact sprint_2 ro rp wh w h0 h1 h2
    by_cases h3 : 7 ≤ rp
    · exact sprint_3 ro rp wh w h0 h1 h2 h3
    have h4 : wh ≠ 0 ∧ wh ≠ 1 := by
      refine ⟨fun e => h (sloB_mk ?_ ?_ ?_ ?_ ?_ ?_), fun e => h (sloB_mk ?_ ?_ ?_ ?_ ?_ ?_)⟩ <;> omega
    exact sprint_4 ro rp wh w h0 h1 h2 h3 (by rw [bne_iff_ne]; exact h4.1) (by rw [bne_iff_ne]; exact h4.2)
theorem sprint_of {ro rp wh : Int} (b : Bool) (h : sloB ro rp wh = b) (w : World) : Calls Try.prog 8 #[.agg #[.int .i64 ro, .int .i64 rp], .int .i64 wh] w (RetBI w (sloL ro rp wh) (if b then 0 else 2)) := by
  have := sprint_any ro rp wh w
  rwa [show sloE ro rp wh = if b then 0 else 2 by simp [sloE, h]] at this

set_option maxHeartbeats 1000000 in
theorem rballot_0 (ro rp : Int) (w : World)  (h0 : ¬ 1 ≤ ro) : Calls Try.prog 21 #[.agg #[.int .i64 ro, .int .i64 rp]] w (RetV w (.bool false)) := by
  have g0 : decide (1 ≤ ro) = false := decide_eq_false h0
  go_enter Try.func21, Try.ntmps21
  go_wp2_with fail
  go_ret
  exact ⟨rfl, bal0 _ _⟩
set_option maxHeartbeats 1000000 in
theorem rballot_1 (ro rp : Int) (w : World) (h0 : 1 ≤ ro) (h1 : ¬ ro ≤ 1099511627776) : Calls Try.prog 21 #[.agg #[.int .i64 ro, .int .i64 rp]] w (RetV w (.bool false)) := by
  have g1 : decide (ro ≤ 1099511627776) = false := decide_eq_false h1
  go_enter Try.func21, Try.ntmps21
  go_wp2_with fail
  go_ret
  exact ⟨rfl, bal0 _ _⟩
set_option maxHeartbeats 1000000 in
theorem rballot_2 (ro rp : Int) (w : World) (h0 : 1 ≤ ro) (h1 : ro ≤ 1099511627776) (h2 : ¬ 0 ≤ rp) : Calls Try.prog 21 #[.agg #[.int .i64 ro, .int .i64 rp]] w (RetV w (.bool false)) := by
  have g2 : decide (0 ≤ rp) = false := decide_eq_false h2
  go_enter Try.func21, Try.ntmps21
  go_wp2_with fail
  go_ret
  exact ⟨rfl, bal0 _ _⟩
set_option maxHeartbeats 1000000 in
theorem rballot_3 (ro rp : Int) (w : World) (h0 : 1 ≤ ro) (h1 : ro ≤ 1099511627776) (h2 : 0 ≤ rp) (h3 : ¬ rp ≤ 6) : Calls Try.prog 21 #[.agg #[.int .i64 ro, .int .i64 rp]] w (RetV w (.bool false)) := by
  have g3 : decide (rp ≤ 6) = false := decide_eq_false h3
  go_enter Try.func21, Try.ntmps21
  go_wp2_with fail
  go_ret
  exact ⟨rfl, bal0 _ _⟩
set_option maxHeartbeats 1000000 in
theorem rballot_4 (ro rp : Int) (w : World) (h0 : 1 ≤ ro) (h1 : ro ≤ 1099511627776) (h2 : 0 ≤ rp) (h3 : rp ≤ 6) : Calls Try.prog 21 #[.agg #[.int .i64 ro, .int .i64 rp]] w (RetV w (.bool true)) := by
  go_enter Try.func21, Try.ntmps21
  go_wp2_with fail
  go_ret
  exact ⟨rfl, bal0 _ _⟩
theorem rballot_of {ro rp : Int} {b : Bool} (h : blB ro rp = b) (w : World) : Calls Try.prog 21 #[.agg #[.int .i64 ro, .int .i64 rp]] w (RetV w (.bool b)) := by
  subst h
  by_cases h0 : 1 ≤ ro
  case neg => rw [blB_no (by omega)]; exact rballot_0 ro rp w h0
  by_cases h1 : ro ≤ 1099511627776
  case neg => rw [blB_no (by omega)]; exact rballot_1 ro rp w h0 h1
  by_cases h2 : 0 ≤ rp
  case neg => rw [blB_no (by omega)]; exact rballot_2 ro rp w h0 h1 h2
  by_cases h3 : rp ≤ 6
  case neg => rw [blB_no (by omega)]; exact rballot_3 ro rp w h0 h1 h2 h3
  rw [blB_mk h0 h1 h2 h3]
  exact rballot_4 ro rp w h0 h1 h2 h3

set_option maxHeartbeats 1000000 in
theorem rsprint_0 (ro rp wh : Int) (w : World) (hb : blB ro rp = false) : Calls Try.prog 9 #[.agg #[.int .i64 ro, .int .i64 rp], .int .i64 wh] w (RetBI w [] 2) := by
  have HB := Lib.hid hb
  clear hb
  go_enter Try.func9, Try.ntmps9
  go_wp2_with fail
  refine (rballot_of HB.out _).mono ?_
  rintro e w0 ⟨rfl, hb0⟩
  go_wp2_with fail
  go_ret2
  exact ⟨none, 0, rfl, Own.none_ _ _, bac hb0⟩
set_option maxHeartbeats 1000000 in
theorem rsprint_1 (ro rp wh : Int) (w : World) (hb : blB ro rp = true) (h0 : wh < 0) : Calls Try.prog 9 #[.agg #[.int .i64 ro, .int .i64 rp], .int .i64 wh] w (RetBI w [] 2) := by
  have HB := Lib.hid hb
  clear hb
  go_enter Try.func9, Try.ntmps9
  go_wp2_with fail
  refine (rballot_of HB.out _).mono ?_
  rintro e w0 ⟨rfl, hb0⟩
  go_wp2_with fail
  go_ret2
  exact ⟨none, 0, rfl, Own.none_ _ _, bac hb0⟩
set_option maxHeartbeats 1000000 in
theorem rsprint_2 (ro rp wh : Int) (w : World) (hb : blB ro rp = true) (h0 : ¬ wh < 0) (h1 : 1 < wh) : Calls Try.prog 9 #[.agg #[.int .i64 ro, .int .i64 rp], .int .i64 wh] w (RetBI w [] 2) := by
  have HB := Lib.hid hb
  clear hb
  have g0 : decide (wh < 0) = false := decide_eq_false h0
  go_enter Try.func9, Try.ntmps9
  go_wp2_with fail
  refine (rballot_of HB.out _).mono ?_
  rintro e w0 ⟨rfl, hb0⟩
  go_wp2_with fail
  go_ret2
  exact ⟨none, 0, rfl, Own.none_ _ _, bac hb0⟩
set_option maxHeartbeats 1000000 in
theorem rsprint_3 (ro rp wh : Int) (w : World) (hb : blB ro rp = true) (h0 : ¬ wh < 0) (h1 : ¬ 1 < wh) : Calls Try.prog 9 #[.agg #[.int .i64 ro, .int .i64 rp], .int .i64 wh] w (RetBI w (putL 6 ro ++ [UInt8.ofNat rp.toNat, UInt8.ofNat wh.toNat]) 0) := by
  have HB := Lib.hid hb
  obtain ⟨a0, a1, a2, a3⟩ := blB_true hb
  clear hb
  have g0 : decide (wh < 0) = false := decide_eq_false h0
  have g1 : decide (1 < wh) = false := decide_eq_false h1
  have q := putL_length6 6 ro
  go_enter Try.func9, Try.ntmps9
  go_wp2_with fail
  refine (rballot_of HB.out _).mono ?_
  rintro e w0 ⟨rfl, hb0⟩
  have B0 := (Blk.new w 23 #[.int .i64 ro, .int .i64 rp]).bel hb0
  have k0 := B0.c 0 (.int .i64 ro) rfl
  have hbb0 := bac hb0
  clear hb0
  go_wp2_with fail
  refine (rput_any 6 ro _ (by omega)).mono ?_
  rintro e w1 ⟨A1, c1, rfl, hown, hb⟩
  have B1 := B0.bel hb
  have k1 := B1.c 1 (.int .i64 rp) rfl
  have hbb := bt hbb0 hb
  have hbz : w.heap.size ≤ w1.heap.size + 1 := by have := hbb.size; omega
  have hrd := rd_lit w1 [UInt8.ofNat rp.toNat, UInt8.ofNat wh.toNat] #[.int .u8 rp, .int .u8 wh] (by simp [bvs]; omega)
  have hown2 : Own (w1.alloc (.cells #[.int .u8 rp, .int .u8 wh] 5)) w.heap.size A1 c1 (putL 6 ro) := (hown.mono hbb0.size).alloc _
  have hlen : (putL 6 ro).length + [UInt8.ofNat rp.toNat, UInt8.ofNat wh.toNat].length ≤ 140737488355328 := by simp; omega
  clear hown k0
  go_wp2_with (at_builtin; refine wpList_append_bytes _ rfl _ _ rfl w.heap.size A1 _ c1 _ rfl rfl hown2 _ 2 2 [UInt8.ofNat rp.toNat, UInt8.ofNat wh.toNat] rfl rfl hrd hlen (by simpa using hbz) ?_; intro A2 c2 w2 hown3 hb3 _)
  go_ret2
  exact retBI_mk (by simp) hown3 ((bal hbb _).trans hb3)
theorem rsprint_any (ro rp wh : Int) (w : World) : Calls Try.prog 9 #[.agg #[.int .i64 ro, .int .i64 rp], .int .i64 wh] w (RetBI w (sloL ro rp wh) (sloE ro rp wh)) := by
  cases hb : blB ro rp
  · rw [show sloL ro rp wh = [] by simp [sloL, sloB, hb], show sloE ro rp wh = 2 by simp [sloE, sloB, hb]]
    exact rsprint_0 ro rp wh w hb
  by_cases h0 : wh < 0
  · rw [show sloL ro rp wh = [] by simp [sloL, sloB_no (.inr (.inr (.inr (.inr (.inl h0)))))], show sloE ro rp wh = 2 by simp [sloE, sloB_no (.inr (.inr (.inr (.inr (.inl h0)))))]]
    exact rsprint_1 ro rp wh w hb h0
  by_cases h1 : 1 < wh
  · rw [show sloL ro rp wh = [] by simp [sloL, sloB_no (.inr (.inr (.inr (.inr (.inr h1)))))], show sloE ro rp wh = 2 by simp [sloE, sloB_no (.inr (.inr (.inr (.inr (.inr h1)))))]]
    exact rsprint_2 ro rp wh w hb h0 h1
  have h : sloB ro rp wh = true := by rw [sloB, hb, inB_mk (by omega) (by omega)]; rfl
  rw [show sloL ro rp wh = putL 6 ro ++ [UInt8.ofNat rp.toNat, UInt8.ofNat wh.toNat] by simp [sloL, h], show sloE ro rp wh = 0 by simp [sloE, h]]
  exact rsprint_3 ro rp wh w hb h0 h1
end Go.Proofs.Ytppokfenbdfegaa
