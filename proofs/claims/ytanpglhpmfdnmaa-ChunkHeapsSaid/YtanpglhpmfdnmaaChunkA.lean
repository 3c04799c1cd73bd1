/-
  THE WALKS OF chunk's bodies AND THE REFERENCE's: Print, Parse.
-/
import Derived.Test.YtanpglhpmfdnmaaClone
import Derived.Deep.RegionHeld3
import Derived.IntWalk
namespace Go.Proofs.Ytanpglhpmfdnmaa
open Go.RowKit
set_option linter.unusedVariables false

def chB (count : Int) (n : Nat) : Bool := inB count 1 8 && decide (n ≤ 80)
def chL (count : Int) (l : List UInt8) : List UInt8 := if chB count l.length then UInt8.ofNat count.toNat :: l else []
def chE (count : Int) (l : List UInt8) : Int := if chB count l.length then 0 else 2
theorem chB_true {count : Int} {n : Nat} (h : chB count n = true) : 1 ≤ count ∧ count ≤ 8 ∧ n ≤ 80 := by simp [chB, inB] at h; omega
theorem chB_mk {count : Int} {n : Nat} (h1 : 1 ≤ count) (h2 : count ≤ 8) (h3 : n ≤ 80) : chB count n = true := by simp [chB, inB]; omega
theorem chB_no {count : Int} {n : Nat} (h : count < 1 ∨ 8 < count ∨ 80 < n) : chB count n = false := by
  cases e : chB count n
  · rfl
  · have := chB_true e; omega
/-- are bytes a chunk's body? -/
def boB (l : List UInt8) : Bool := decide (1 ≤ l.length) && (decide (l.length ≤ 81) && inB (getN l 0 1) 1 8)
def boN (l : List UInt8) : Int := if boB l then getN l 0 1 else 0
def boL (l : List UInt8) : List UInt8 := if boB l then l.drop 1 else []
def boE (l : List UInt8) : Int := if boB l then 0 else 120
theorem boB_true {l : List UInt8} (h : boB l = true) : 1 ≤ l.length ∧ l.length ≤ 81 ∧ 1 ≤ getN l 0 1 ∧ getN l 0 1 ≤ 8 := by simp [boB, inB] at h; omega
theorem boB_mk {l : List UInt8} (h1 : 1 ≤ l.length) (h2 : l.length ≤ 81) (h3 : 1 ≤ getN l 0 1) (h4 : getN l 0 1 ≤ 8) : boB l = true := by simp [boB, inB]; omega
theorem boB_no {l : List UInt8} (h : l.length = 0 ∨ 81 < l.length ∨ getN l 0 1 < 1 ∨ 8 < getN l 0 1) : boB l = false := by
  cases e : boB l
  · rfl
  · have := boB_true e; omega
/-- a number, new bytes, an error -/
def RetIB (w : World) (n : Int) (l : List UInt8) (k : Int) (e : Ending) (w' : World) : Prop :=
  ∃ A c, e = .returned (.tuple #[.int .i64 n, .slice A l.length c, .int .i64 k]) ∧ Own w' w.heap.size A c l ∧ Below w.heap.size w w'
theorem retIB_mk {w w' : World} {A : Option Addr} {n c : Nat} {l : List UInt8} {m k : Int} (hn : n = l.length) (ho : Own w' w.heap.size A c l) (hb : Below w.heap.size w w') : RetIB w m l k (.returned (.tuple #[.int .i64 m, .slice A n c, .int .i64 k])) w' :=
  ⟨A, c, by rw [hn], ho, hb⟩
theorem bdr {w a : World} (h : Below w.drew.heap.size w.drew a) : Below w.heap.size w a := ⟨h.os, h.tape, h.output, h.size, h.block⟩
theorem bo_none {l : List UInt8} (h : boB l = false) (w : World) : RetIB w (boN l) (boL l) (boE l) = RetIB w 0 [] 120 := by simp [boN, boL, boE, h]
theorem bo_some {l : List UInt8} (h : boB l = true) (w : World) : RetIB w (boN l) (boL l) (boE l) = RetIB w (getN l 0 1) (l.drop 1) 0 := by simp [boN, boL, boE, h]

theorem cprint_0 (count : Int) (A : Option Addr) (c : Nat) (l : List UInt8) (w : World) (h0 : count < 1) : Calls Try.prog 11 #[.int .i64 count, .slice A l.length c] w (RetBI w [] 2) := by
  go_enter Try.func11, Try.ntmps11
  go_wp2_with fail
  go_ret2
  exact ⟨none, 0, rfl, Own.none_ _ _, Below.refl _ _⟩
theorem cprint_1 (count : Int) (A : Option Addr) (c : Nat) (l : List UInt8) (w : World) (h0 : ¬ count < 1) (h1 : 8 < count) : Calls Try.prog 11 #[.int .i64 count, .slice A l.length c] w (RetBI w [] 2) := by
  have g0 : decide (count < 1) = false := decide_eq_false h0
  go_enter Try.func11, Try.ntmps11
  go_wp2_with fail
  go_ret2
  exact ⟨none, 0, rfl, Own.none_ _ _, Below.refl _ _⟩
theorem cprint_2 (count : Int) (A : Option Addr) (c : Nat) (l : List UInt8) (w : World) (h0 : ¬ count < 1) (h1 : ¬ 8 < count) (h2 : (80 : Int) < l.length) : Calls Try.prog 11 #[.int .i64 count, .slice A l.length c] w (RetBI w [] 2) := by
  have g0 : decide (count < 1) = false := decide_eq_false h0
  have g1 : decide (8 < count) = false := decide_eq_false h1
  go_enter Try.func11, Try.ntmps11
  go_wp2_with fail
  go_ret2
  exact ⟨none, 0, rfl, Own.none_ _ _, Below.refl _ _⟩
set_option maxHeartbeats 400000 in
theorem cprint_3 (count : Int) (A : Option Addr) (c : Nat) (l : List UInt8) (w : World) (hr : Rd w A l) (h0 : 1 ≤ count) (h1 : count ≤ 8) (h2 : l.length ≤ 80) : Calls Try.prog 11 #[.int .i64 count, .slice A l.length c] w (RetBI w (UInt8.ofNat count.toNat :: l) 0) := by
  have g0 : decide (count < 1) = false := decide_eq_false (by omega)
  have g1 : decide (8 < count) = false := decide_eq_false (by omega)
  have g2 : decide ((80 : Int) < l.length) = false := decide_eq_false (by omega)
  have ho : Own (w.alloc (.cells #[.int .u8 count] 5)) w.heap.size (some ⟨w.heap.size, 0, none⟩) 1 [UInt8.ofNat count.toNat] := own_lit w _ _ _ (by simp [bvs]; omega) (Nat.le_refl _) (by simp [maxLen]) 1 rfl
  have hr2 := hr.alloc (.cells #[.int .u8 count] 5)
  have hlen : [UInt8.ofNat count.toNat].length + l.length ≤ 140737488355328 := by simp; omega
  go_enter Try.func11, Try.ntmps11
  go_wp2_with (at_builtin; refine wpList_append_bytes _ rfl (.tmp 19) (.tmp 20) rfl w.heap.size _ 1 1 [UInt8.ofNat count.toNat] rfl rfl ho A _ c l rfl rfl hr2 hlen ?_ ?_; (simp); intro A1 c1 w1 hown1 hb1 _)
  go_ret2
  exact retBI_mk (by simp) hown1 ((bal0 _ _).trans hb1)
theorem cprint_any (count : Int) (A : Option Addr) (c : Nat) (l : List UInt8) (w : World) (hr : Rd w A l) : Calls Try.prog 11 #[.int .i64 count, .slice A l.length c] w (RetBI w (chL count l) (chE count l)) := by
  by_cases h0 : count < 1
  · rw [show chL count l = [] by simp [chL, chB_no (.inl h0)], show chE count l = 2 by simp [chE, chB_no (.inl h0)]]
    exact cprint_0 count A c l w h0
  by_cases h1 : 8 < count
  · rw [show chL count l = [] by simp [chL, chB_no (.inr (.inl h1))], show chE count l = 2 by simp [chE, chB_no (.inr (.inl h1))]]
    exact cprint_1 count A c l w h0 h1
  by_cases h2 : 80 < l.length
  · rw [show chL count l = [] by simp [chL, chB_no (.inr (.inr h2))], show chE count l = 2 by simp [chE, chB_no (.inr (.inr h2))]]
    exact cprint_2 count A c l w h0 h1 (by omega)
  · have h : chB count l.length = true := chB_mk (by omega) (by omega) (by omega)
    rw [show chL count l = UInt8.ofNat count.toNat :: l by simp [chL, h], show chE count l = 0 by simp [chE, h]]
    exact cprint_3 count A c l w hr (by omega) (by omega) (by omega)
theorem rcprint_0 (count : Int) (A : Option Addr) (c : Nat) (l : List UInt8) (w : World) (h0 : count < 1) : Calls Try.prog 12 #[.int .i64 count, .slice A l.length c] w (RetBI w [] 2) := by
  go_enter Try.func12, Try.ntmps12
  go_wp2_with fail
  go_ret2
  exact ⟨none, 0, rfl, Own.none_ _ _, Below.refl _ _⟩
theorem rcprint_1 (count : Int) (A : Option Addr) (c : Nat) (l : List UInt8) (w : World) (h0 : ¬ count < 1) (h1 : 8 < count) : Calls Try.prog 12 #[.int .i64 count, .slice A l.length c] w (RetBI w [] 2) := by
  have g0 : decide (count < 1) = false := decide_eq_false h0
  go_enter Try.func12, Try.ntmps12
  go_wp2_with fail
  go_ret2
  exact ⟨none, 0, rfl, Own.none_ _ _, Below.refl _ _⟩
theorem rcprint_2 (count : Int) (A : Option Addr) (c : Nat) (l : List UInt8) (w : World) (h0 : ¬ count < 1) (h1 : ¬ 8 < count) (h2 : (80 : Int) < l.length) : Calls Try.prog 12 #[.int .i64 count, .slice A l.length c] w (RetBI w [] 2) := by
  have g0 : decide (count < 1) = false := decide_eq_false h0
  have g1 : decide (8 < count) = false := decide_eq_false h1
  go_enter Try.func12, Try.ntmps12
  go_wp2_with fail
  go_ret2
  exact ⟨none, 0, rfl, Own.none_ _ _, Below.refl _ _⟩
set_option maxHeartbeats 400000 in
theorem rcprint_3 (count : Int) (A : Option Addr) (c : Nat) (l : List UInt8) (w : World) (hr : Rd w A l) (h0 : 1 ≤ count) (h1 : count ≤ 8) (h2 : l.length ≤ 80) : Calls Try.prog 12 #[.int .i64 count, .slice A l.length c] w (RetBI w (UInt8.ofNat count.toNat :: l) 0) := by
  have g0 : decide (count < 1) = false := decide_eq_false (by omega)
  have g1 : decide (8 < count) = false := decide_eq_false (by omega)
  have g2 : decide ((80 : Int) < l.length) = false := decide_eq_false (by omega)
  have ho : Own (w.alloc (.cells #[.int .u8 count] 5)) w.heap.size (some ⟨w.heap.size, 0, none⟩) 1 [UInt8.ofNat count.toNat] := own_lit w _ _ _ (by simp [bvs]; omega) (Nat.le_refl _) (by simp [maxLen]) 1 rfl
  have hr2 := hr.alloc (.cells #[.int .u8 count] 5)
  have hlen : [UInt8.ofNat count.toNat].length + l.length ≤ 140737488355328 := by simp; omega
  go_enter Try.func12, Try.ntmps12
  go_wp2_with (at_builtin; refine wpList_append_bytes _ rfl (.tmp 21) (.tmp 22) rfl w.heap.size _ 1 1 [UInt8.ofNat count.toNat] rfl rfl ho A _ c l rfl rfl hr2 hlen ?_ ?_; (simp); intro A1 c1 w1 hown1 hb1 _)
  go_ret2
  exact retBI_mk (by simp) hown1 ((bal0 _ _).trans hb1)
theorem rcprint_any (count : Int) (A : Option Addr) (c : Nat) (l : List UInt8) (w : World) (hr : Rd w A l) : Calls Try.prog 12 #[.int .i64 count, .slice A l.length c] w (RetBI w (chL count l) (chE count l)) := by
  by_cases h0 : count < 1
  · rw [show chL count l = [] by simp [chL, chB_no (.inl h0)], show chE count l = 2 by simp [chE, chB_no (.inl h0)]]
    exact rcprint_0 count A c l w h0
  by_cases h1 : 8 < count
  · rw [show chL count l = [] by simp [chL, chB_no (.inr (.inl h1))], show chE count l = 2 by simp [chE, chB_no (.inr (.inl h1))]]
    exact rcprint_1 count A c l w h0 h1
  by_cases h2 : 80 < l.length
  · rw [show chL count l = [] by simp [chL, chB_no (.inr (.inr h2))], show chE count l = 2 by simp [chE, chB_no (.inr (.inr h2))]]
    exact rcprint_2 count A c l w h0 h1 (by omega)
  · have h : chB count l.length = true := chB_mk (by omega) (by omega) (by omega)
    rw [show chL count l = UInt8.ofNat count.toNat :: l by simp [chL, h], show chE count l = 0 by simp [chE, h]]
    exact rcprint_3 count A c l w hr (by omega) (by omega) (by omega)

theorem cparse_0 (A : Option Addr) (c : Nat) (l : List UInt8) (w : World) (h : l.length = 0) : Calls Try.prog 13 #[.slice A l.length c] w (RetIB w 0 [] 120) := by
  have g0 : ((l.length : Int) == 0) = true := by rw [beq_iff_eq]; omega
  clear h
  go_enter Try.func13, Try.ntmps13
  go_wp2_with fail
  go_ret3
  exact ⟨none, 0, rfl, Own.none_ _ _, Below.refl _ _⟩
theorem cparse_1 (A : Option Addr) (c : Nat) (l : List UInt8) (w : World) (h : 81 < l.length) : Calls Try.prog 13 #[.slice A l.length c] w (RetIB w 0 [] 120) := by
  have g0 : ((l.length : Int) == 0) = false := by rw [beq_eq_false_iff_ne]; omega
  have g1 : (81 : Int) < l.length := by omega
  clear h
  go_enter Try.func13, Try.ntmps13
  go_wp2_with fail
  go_ret3
  exact ⟨none, 0, rfl, Own.none_ _ _, Below.refl _ _⟩
set_option maxHeartbeats 400000 in
theorem cparse_2 (A : Option Addr) (c : Nat) (l : List UInt8) (w : World) (hr : Rd w A l) (hc : l.length ≤ c) (hm : c ≤ maxLen) (h0 : 1 ≤ l.length) (h1 : l.length ≤ 81) : Calls Try.prog 13 #[.slice A l.length c] w (RetIB w (boN l) (boL l) (boE l)) := by
  obtain ⟨b, o, rfl, hcl⟩ := hr.at_ (k := 0) (by omega)
  obtain ⟨y, g, k0, Y⟩ := rd_byte hcl 0 (by omega)
  rw [Nat.add_zero] at k0
  have hblk := World.block_lt_of_cell? w _ k0
  clear hcl
  have g0 : ((l.length : Int) == 0) = false := by rw [beq_eq_false_iff_ne]; omega
  have g1 : decide ((81 : Int) < l.length) = false := decide_eq_false (by omega)
  have HY : Hid (getN l 0 1 = y) := Lib.hid Y.out.symm
  have hm' := hm
  unfold maxLen at hm'
  have hw0 : IntKind.i64.wrap (y : Int) = y := IntWalk.i64_in _ (by omega)
  by_cases hy1 : (y : Int) < 1
  · rw [bo_none (boB_no (by rw [HY.out]; omega))]
    go_enter Try.func13, Try.ntmps13
    go_wp2_with fail
    go_ret3
    exact ⟨none, 0, rfl, Own.none_ _ _, Below.refl _ _⟩
  have hd1 : decide ((y : Int) < 1) = false := decide_eq_false hy1
  by_cases hy2 : 8 < (y : Int)
  · rw [bo_none (boB_no (by rw [HY.out]; omega))]
    go_enter Try.func13, Try.ntmps13
    go_wp2_with fail
    go_ret3
    exact ⟨none, 0, rfl, Own.none_ _ _, Below.refl _ _⟩
  have hd2 : decide (8 < (y : Int)) = false := decide_eq_false hy2
  rw [bo_some (boB_mk h0 h1 (by rw [HY.out]; omega) (by rw [HY.out]; omega)), HY.out]
  have HD : Hid (l.length - 1 = (l.drop 1).length) := Lib.hid (by simp)
  have hdl : (l.drop 1).length ≤ 140737488355328 := by simp; omega
  have h1' : (1 : Int) ≤ l.length := by omega
  have hz0 : 0 < l.length := h0
  have hz1 : (0 : Int) < l.length := by omega
  by_cases hc1 : c = 1
  · have hdn : l.drop 1 = [] := List.drop_eq_nil_iff.2 (by omega)
    rw [hdn]
    subst hc1
    go_enter Try.func13, Try.ntmps13
    go_wp2_with fail
    go_region_held3 (fun w' => w'.cell? ⟨b, o, none⟩ = some (.int .u8 y)) (first | go_keep | assumption) (first | (go_at_call 36; refine (clone_n (some ⟨b, o, none⟩) _ [] 0 _ (Rd.nil _ _) (Nat.zero_le _) rfl).mono ?_; rintro e w1 ⟨A1, c1, rfl, hown1, hb1⟩; have kk := (hb1.cell (p := ⟨b, o, none⟩) hblk).trans k0))
    go_wp2_with fail
    go_ret3
    exact retIB_mk rfl hown1 (bdr hb1)
  · have hrs : Rd w (some ⟨b, o + 1, none⟩) (l.drop 1) := by
      have := hr.slice_ne 1 (l.length - 1) c (by omega) hc hc1
      rw [List.take_of_length_le (by simp)] at this
      simpa [Addr.add_lit] using this
    go_enter Try.func13, Try.ntmps13
    go_wp2_with fail
    go_region_held3 (fun w' => w'.cell? ⟨b, o, none⟩ = some (.int .u8 y)) (first | go_keep | assumption) (first | (go_at_call 36; refine (clone_n (some ⟨b, o + 1, none⟩) _ (l.drop 1) _ _ hrs.drew hdl HD.out).mono ?_; rintro e w1 ⟨A1, c1, rfl, hown1, hb1⟩; have kk := (hb1.cell (p := ⟨b, o, none⟩) hblk).trans k0))
    go_wp2_with fail
    go_ret3
    exact retIB_mk HD.out hown1 (bdr hb1)

theorem cparse_any (A : Option Addr) (c : Nat) (l : List UInt8) (w : World) (hr : Rd w A l) (hc : l.length ≤ c) (hm : c ≤ maxLen) : Calls Try.prog 13 #[.slice A l.length c] w (RetIB w (boN l) (boL l) (boE l)) := by
  by_cases h0 : l.length = 0
  · rw [bo_none (boB_no (.inl h0))]; exact cparse_0 A c l w h0
  by_cases h1 : 81 < l.length
  · rw [bo_none (boB_no (.inr (.inl h1)))]; exact cparse_1 A c l w h1
  exact cparse_2 A c l w hr hc hm (by omega) (by omega)

theorem rcparse_0 (A : Option Addr) (c : Nat) (l : List UInt8) (w : World) (h : l.length = 0) : Calls Try.prog 14 #[.slice A l.length c] w (RetIB w 0 [] 120) := by
  have g0 : ((l.length : Int) < 1) := by omega
  clear h
  go_enter Try.func14, Try.ntmps14
  go_wp2_with fail
  go_ret3
  exact ⟨none, 0, rfl, Own.none_ _ _, Below.refl _ _⟩
theorem rcparse_1 (A : Option Addr) (c : Nat) (l : List UInt8) (w : World) (h : 81 < l.length) : Calls Try.prog 14 #[.slice A l.length c] w (RetIB w 0 [] 120) := by
  have g0 : decide ((l.length : Int) < 1) = false := decide_eq_false (by omega)
  have g1 : (81 : Int) < l.length := by omega
  clear h
  go_enter Try.func14, Try.ntmps14
  go_wp2_with fail
  go_ret3
  exact ⟨none, 0, rfl, Own.none_ _ _, Below.refl _ _⟩
set_option maxHeartbeats 400000 in
theorem rcparse_2 (A : Option Addr) (c : Nat) (l : List UInt8) (w : World) (hr : Rd w A l) (hc : l.length ≤ c) (hm : c ≤ maxLen) (h0 : 1 ≤ l.length) (h1 : l.length ≤ 81) : Calls Try.prog 14 #[.slice A l.length c] w (RetIB w (boN l) (boL l) (boE l)) := by
  obtain ⟨b, o, rfl, hcl⟩ := hr.at_ (k := 0) (by omega)
  obtain ⟨y, g, k0, Y⟩ := rd_byte hcl 0 (by omega)
  rw [Nat.add_zero] at k0
  have hblk := World.block_lt_of_cell? w _ k0
  clear hcl
  have g0 : decide ((l.length : Int) < 1) = false := decide_eq_false (by omega)
  have g1 : decide ((81 : Int) < l.length) = false := decide_eq_false (by omega)
  have HY : Hid (getN l 0 1 = y) := Lib.hid Y.out.symm
  have hm' := hm
  unfold maxLen at hm'
  have hw0 : IntKind.i64.wrap (y : Int) = y := IntWalk.i64_in _ (by omega)
  by_cases hy1 : (y : Int) < 1
  · rw [bo_none (boB_no (by rw [HY.out]; omega))]
    go_enter Try.func14, Try.ntmps14
    go_wp2_with fail
    go_ret3
    exact ⟨none, 0, rfl, Own.none_ _ _, Below.refl _ _⟩
  have hd1 : decide ((y : Int) < 1) = false := decide_eq_false hy1
  by_cases hy2 : 8 < (y : Int)
  · rw [bo_none (boB_no (by rw [HY.out]; omega))]
    go_enter Try.func14, Try.ntmps14
    go_wp2_with fail
    go_ret3
    exact ⟨none, 0, rfl, Own.none_ _ _, Below.refl _ _⟩
  have hd2 : decide (8 < (y : Int)) = false := decide_eq_false hy2
  rw [bo_some (boB_mk h0 h1 (by rw [HY.out]; omega) (by rw [HY.out]; omega)), HY.out]
  have HD : Hid (l.length - 1 = (l.drop 1).length) := Lib.hid (by simp)
  have hdl : (l.drop 1).length ≤ 140737488355328 := by simp; omega
  have h1' : (1 : Int) ≤ l.length := by omega
  have hz0 : 0 < l.length := h0
  have hz1 : (0 : Int) < l.length := by omega
  by_cases hc1 : c = 1
  · have hdn : l.drop 1 = [] := List.drop_eq_nil_iff.2 (by omega)
    rw [hdn]
    subst hc1
    go_enter Try.func14, Try.ntmps14
    go_wp2_with fail
    go_region_held3 (fun w' => w'.cell? ⟨b, o, none⟩ = some (.int .u8 y)) (first | go_keep | assumption) (first | (go_at_call 10; refine (copy_n (some ⟨b, o, none⟩) _ [] 0 _ (Rd.nil _ _) (Nat.zero_le _) rfl).mono ?_; rintro e w1 ⟨A1, c1, rfl, hown1, hb1⟩; have kk := (hb1.cell (p := ⟨b, o, none⟩) hblk).trans k0))
    go_wp2_with fail
    go_ret3
    exact retIB_mk rfl hown1 (bdr hb1)
  · have hrs : Rd w (some ⟨b, o + 1, none⟩) (l.drop 1) := by
      have := hr.slice_ne 1 (l.length - 1) c (by omega) hc hc1
      rw [List.take_of_length_le (by simp)] at this
      simpa [Addr.add_lit] using this
    go_enter Try.func14, Try.ntmps14
    go_wp2_with fail
    go_region_held3 (fun w' => w'.cell? ⟨b, o, none⟩ = some (.int .u8 y)) (first | go_keep | assumption) (first | (go_at_call 10; refine (copy_n (some ⟨b, o + 1, none⟩) _ (l.drop 1) _ _ hrs.drew hdl HD.out).mono ?_; rintro e w1 ⟨A1, c1, rfl, hown1, hb1⟩; have kk := (hb1.cell (p := ⟨b, o, none⟩) hblk).trans k0))
    go_wp2_with fail
    go_ret3
    exact retIB_mk HD.out hown1 (bdr hb1)
theorem rcparse_any (A : Option Addr) (c : Nat) (l : List UInt8) (w : World) (hr : Rd w A l) (hc : l.length ≤ c) (hm : c ≤ maxLen) : Calls Try.prog 14 #[.slice A l.length c] w (RetIB w (boN l) (boL l) (boE l)) := by
  by_cases h0 : l.length = 0
  · rw [bo_none (boB_no (.inl h0))]; exact rcparse_0 A c l w h0
  by_cases h1 : 81 < l.length
  · rw [bo_none (boB_no (.inr (.inl h1)))]; exact rcparse_1 A c l w h1
  exact rcparse_2 A c l w hr hc hm (by omega) (by omega)
end Go.Proofs.Ytanpglhpmfdnmaa
