/-
  chunk.Join and what it calls; the reference's.
-/
import Derived.Test.YtanpglhpmfdnmaaRet
import Derived.Test.YtanpglhpmfdnmaaHeapL
import Derived.Lib.AppendZerosOnto
import Derived.OwnWalk
namespace Go.Proofs.Ytanpglhpmfdnmaa
open Go.RowKit
set_option linter.unusedVariables false
set_option linter.unusedSimpArgs false
/-- can so many bytes be that chunk's? -/
def pfB (k count n : Int) : Bool := decide (1 ≤ count) && (decide (count ≤ 8) && (decide (0 ≤ k) && (decide (k < count) && (decide (n ≤ 80) && (if k = count - 1 then decide (0 < n) || decide (count = 1) else decide (n = 80))))))
theorem pfB_iff {k count n : Int} : pfB k count n = true ↔ 1 ≤ count ∧ count ≤ 8 ∧ 0 ≤ k ∧ k < count ∧ n ≤ 80 ∧ (k = count - 1 → 0 < n ∨ count = 1) ∧ (k ≠ count - 1 → n = 80) := by
  unfold pfB
  by_cases h : k = count - 1
  · simp [h] <;> omega
  · simp [h]
theorem pfB_eq {k count n : Int} {b : Bool} (h : b = true ↔ 1 ≤ count ∧ count ≤ 8 ∧ 0 ≤ k ∧ k < count ∧ n ≤ 80 ∧ (k = count - 1 → 0 < n ∨ count = 1) ∧ (k ≠ count - 1 → n = 80)) : b = pfB k count n := by
  cases e : pfB k count n
  · cases b
    · rfl
    · exact absurd (pfB_iff.2 (h.1 rfl)) (by rw [e]; simp)
  · exact h.2 (pfB_iff.1 e)
set_option maxHeartbeats 1000000 in
theorem pfits_any (k count n : Int) (w : World) : Calls Try.prog 38 #[.int .i64 k, .int .i64 count, .int .i64 n] w (RetV w (.bool (pfB k count n))) := by
  by_cases d0 : count < 1
  · go_enter Try.func38, Try.ntmps38; go_wp2_with fail; go_ret; exact ⟨ret_bool (pfB_eq (by simp; omega)), Below.refl _ _⟩
  by_cases d1 : 8 < count
  · go_enter Try.func38, Try.ntmps38; go_wp2_with fail; go_ret; exact ⟨ret_bool (pfB_eq (by simp; omega)), Below.refl _ _⟩
  by_cases d2 : k < 0
  · go_enter Try.func38, Try.ntmps38; go_wp2_with fail; go_ret; exact ⟨ret_bool (pfB_eq (by simp; omega)), Below.refl _ _⟩
  by_cases d3 : count ≤ k
  · go_enter Try.func38, Try.ntmps38; go_wp2_with fail; go_ret; exact ⟨ret_bool (pfB_eq (by simp; omega)), Below.refl _ _⟩
  by_cases d4 : 80 < n
  · go_enter Try.func38, Try.ntmps38; go_wp2_with fail; go_ret; exact ⟨ret_bool (pfB_eq (by simp; omega)), Below.refl _ _⟩
  have h1 : 1 ≤ count := by omega
  have h2 : count ≤ 8 := by omega
  by_cases d5 : k = count - 1
  · subst d5
    by_cases d6 : 0 < n
    · go_enter Try.func38, Try.ntmps38; go_wp2_with fail; go_ret; exact ⟨ret_bool (pfB_eq (by simp; omega)), Below.refl _ _⟩
    · by_cases d7 : count = 1
      · go_enter Try.func38, Try.ntmps38; go_wp2_with fail; go_ret; exact ⟨ret_bool (pfB_eq (by simp; omega)), Below.refl _ _⟩
      · go_enter Try.func38, Try.ntmps38; go_wp2_with fail; go_ret; exact ⟨ret_bool (pfB_eq (by simp; omega)), Below.refl _ _⟩
  · have d6 : (k == count - 1) = false := beq_eq_false_iff_ne.2 d5
    go_enter Try.func38, Try.ntmps38; go_wp2_with fail; go_ret; exact ⟨ret_bool (pfB_eq (by simp; omega)), Below.refl _ _⟩
set_option maxHeartbeats 1000000 in
theorem rpfits_any (k count n : Int) (w : World) : Calls Try.prog 39 #[.int .i64 k, .int .i64 count, .int .i64 n] w (RetV w (.bool (pfB k count n))) := by
  by_cases d0 : count < 1
  · go_enter Try.func39, Try.ntmps39; go_wp2_with fail; go_ret; exact ⟨ret_bool (pfB_eq (by simp; omega)), Below.refl _ _⟩
  by_cases d1 : 8 < count
  · go_enter Try.func39, Try.ntmps39; go_wp2_with fail; go_ret; exact ⟨ret_bool (pfB_eq (by simp; omega)), Below.refl _ _⟩
  by_cases d2 : k < 0
  · go_enter Try.func39, Try.ntmps39; go_wp2_with fail; go_ret; exact ⟨ret_bool (pfB_eq (by simp; omega)), Below.refl _ _⟩
  by_cases d3 : count ≤ k
  · go_enter Try.func39, Try.ntmps39; go_wp2_with fail; go_ret; exact ⟨ret_bool (pfB_eq (by simp; omega)), Below.refl _ _⟩
  by_cases d4 : 80 < n
  · go_enter Try.func39, Try.ntmps39; go_wp2_with fail; go_ret; exact ⟨ret_bool (pfB_eq (by simp; omega)), Below.refl _ _⟩
  have h1 : 1 ≤ count := by omega
  have h2 : count ≤ 8 := by omega
  by_cases d5 : k < count - 1
  · go_enter Try.func39, Try.ntmps39; go_wp2_with fail; go_ret; exact ⟨ret_bool (pfB_eq (by simp; omega)), Below.refl _ _⟩
  · by_cases d6 : 1 ≤ n
    · go_enter Try.func39, Try.ntmps39; go_wp2_with fail; go_ret; exact ⟨ret_bool (pfB_eq (by simp; omega)), Below.refl _ _⟩
    · by_cases d7 : count = 1
      · go_enter Try.func39, Try.ntmps39; go_wp2_with fail; go_ret; exact ⟨ret_bool (pfB_eq (by simp; omega)), Below.refl _ _⟩
      · go_enter Try.func39, Try.ntmps39; go_wp2_with fail; go_ret; exact ⟨ret_bool (pfB_eq (by simp; omega)), Below.refl _ _⟩
theorem pfits_v {k count n : Int} {b : Bool} (h : pfB k count n = b) (w : World) : Calls Try.prog 38 #[.int .i64 k, .int .i64 count, .int .i64 n] w (RetV w (.bool b)) := by
  subst h
  exact pfits_any k count n w
theorem rpfits_v {k count n : Int} {b : Bool} (h : pfB k count n = b) (w : World) : Calls Try.prog 39 #[.int .i64 k, .int .i64 count, .int .i64 n] w (RetV w (.bool b)) := by
  subst h
  exact rpfits_any k count n w
/-- slices.Grow of a slice that is none -/
theorem grow_nil (n : Nat) (w : World) (hn : n ≤ 1000000) : Calls Try.prog 44 #[.slice none 0 0, .int .i64 n] w (RetB w []) := by
  obtain ⟨i, hi, hz0, hz1, hz2⟩ := info_parts u8_info
  by_cases h0 : n = 0
  · subst h0
    go_enter Try.func44, Try.ntmps44
    go_wp2_with fail
    go_ret
    exact ⟨none, 0, rfl, Own.none_ _ _, Below.refl _ _⟩
  · have hrz := fun ty => Go.Lib.run_append_nil_zeros (P := Try.prog) w 22 3 ty 5 i (.int .u8 0) .i64 .i64 Try.underlying22 Try.underlying3 hi hz0 n (by omega) (by omega) (by omega) (by rw [hz2]; omega)
    have hG := grownCap_ge w n 0 5
    have hG2 := grownCap_le_maxLen w n 0 5 (by unfold maxLen; omega)
    obtain ⟨G, hGe⟩ : ∃ G, grownCap w n 0 5 = G := ⟨_, rfl⟩
    rw [hGe] at hrz hG hG2
    clear hGe
    unfold maxLen at hG2
    have hn0 : 0 < n := by omega
    go_enter Try.func44, Try.ntmps44
    go_wp2_with (at_builtin; refine Go.Lib.wpList_append_run _ rfl _ _ _ _ rfl _ _ rfl rfl _ _ (hrz _) ?_)
    go_ret
    refine ⟨some ⟨w.heap.size, 0, none⟩, G, rfl, ?_, ?_⟩
    · refine ⟨by simp [bvs], .inr ⟨w.heap.size, G, _, rfl, Nat.le_refl _, heap_alloc_new w _, Nat.zero_le _, hG2, ?_, by simp [bvs]⟩⟩
      rw [Array.size_append, size_zeroCells, size_zeroCells]
      simp
      omega
    · exact ((Below.refl _ w).alloc (Nat.le_refl _) _).drew
set_option maxRecDepth 100000 in
set_option maxHeartbeats 2000000 in
theorem concat_any (A : Option Addr) (c : Nat) (ls : List (List UInt8)) (w : World) (hr : RdL w A ls) (hc : ls.length ≤ 1000) (hs : ls.flatten.length ≤ 1000000) :
    Calls Try.prog 42 #[.slice A ls.length c] w (RetB w ls.flatten) := by
  go_enter Try.func42, Try.ntmps42
  go_wp2_with fail
  go_loop [3, 11] (fun s i => ∃ k : Nat, k ≤ ls.length ∧ i = .int .i64 k ∧ s = .int .i64 ((ls.take k).flatten.length : Nat)) (fun _ i => ls.length - (intOf i).toNat)
  case atStart => exact ⟨0, Nat.zero_le _, rfl, rfl⟩
  case round =>
    obtain ⟨k, hk, rfl, rfl⟩ := hrel
    by_cases hlt : k < ls.length
    · obtain ⟨b, o, rfl, A2, c2, hcell, hr2⟩ := hr.at_ hlt
      have hlen := Nat.le_trans (flatten_take_le ls k hlt) hs
      have e : (ls.take k).flatten.length + ls[k].length = (ls.take (k + 1)).flatten.length := by rw [flatten_take_succ ls k hlt, List.length_append]
      have HE := Lib.hid e
      obtain ⟨n, hn⟩ : ∃ n, (ls.take k).flatten.length = n := ⟨_, rfl⟩
      obtain ⟨m, hm⟩ : ∃ m, ls[k].length = m := ⟨_, rfl⟩
      have HN := Lib.hid hn
      have HM := Lib.hid hm
      rw [hn] at hlen ⊢
      rw [hm] at hlen hcell
      clear hn hm e
      go_wp2_with fail
      go_round
      case measure => simp [intOf]; omega
      case rel => exact ⟨k + 1, hlt, by go_num, by rw [← HE.out, HN.out, HM.out]; go_num⟩
    · obtain rfl : k = ls.length := by omega
      rw [List.take_length]
      obtain ⟨n, hn⟩ : ∃ n, ls.flatten.length = n := ⟨_, rfl⟩
      have HN := Lib.hid hn
      rw [hn] at hs ⊢
      clear hn
      go_wp2_with fail
      with_reducible refine (grow_nil n _ hs).mono ?_
      rintro e w1 ⟨A0, c0, rfl, hown0, hb0⟩
      go_wp2_with fail
      go_loopw [6, 27] (fun v i wr => ∃ (k : Nat) (A1 : Option Addr) (c1 : Nat), k ≤ ls.length ∧ i = .int .i64 k ∧ v = .slice A1 (ls.take k).flatten.length c1 ∧ Own wr w.heap.size A1 c1 (ls.take k).flatten ∧ Below w.heap.size w wr) (fun _ i _ => ls.length - (intOf i).toNat)
      case atStart => exact ⟨0, A0, c0, Nat.zero_le _, rfl, rfl, hown0, hb0⟩
      case round =>
        clear hown0 hb0
        obtain ⟨k, A1, c1, hk, rfl, rfl, hown, hb⟩ := hrel
        by_cases hlt : k < ls.length
        · obtain ⟨b, o, rfl, A2, c2, hcell, hr2⟩ := (hr.below hb).at_ hlt
          have hlen := flatten_take_le ls k hlt
          rw [HN.out] at hlen
          obtain ⟨P, HP⟩ : ∃ P, Hid (P = (ls.take k).flatten) := ⟨_, Lib.hid rfl⟩
          obtain ⟨X, HX⟩ : ∃ X, Hid (X = ls[k]) := ⟨_, Lib.hid rfl⟩
          rw [← HP.out] at hown hlen ⊢
          rw [← HX.out] at hr2 hlen hcell
          have hlen2 : P.length + X.length ≤ 140737488355328 := by omega
          go_wp2_with (at_builtin; refine wpList_append_bytes _ rfl _ _ rfl w.heap.size A1 P.length c1 P rfl rfl hown A2 X.length c2 X rfl rfl hr2 hlen2 hb.size ?_; intro A3 c3 w3 hown3 hb3 _)
          go_roundw
          case measure => simp [intOf]; omega
          case rel =>
            have e : P ++ X = (ls.take (k + 1)).flatten := by rw [flatten_take_succ ls k hlt, HP.out, HX.out]
            rw [e] at hown3
            exact ⟨k + 1, A3, c3, by omega, by go_num, by rw [← e, List.length_append], hown3, hb.trans hb3⟩
        · obtain rfl : k = ls.length := by omega
          rw [List.take_length] at hown ⊢
          go_wp2_with fail
          go_ret
          exact ⟨A1, c1, rfl, hown, hb⟩
theorem concat_v {ls : List (List UInt8)} {F : List UInt8} (h : ls.flatten = F) (A : Option Addr) (c : Nat) (w : World) (hr : RdL w A ls) (hc : ls.length ≤ 1000) (hs : ls.flatten.length ≤ 1000000) :
    Calls Try.prog 42 #[.slice A ls.length c] w (RetB w F) := by
  subst h
  exact concat_any A c ls w hr hc hs
/-- can these be put together? -/
def joB (ls : List (List UInt8)) : Bool := decide (ls ≠ []) && (List.range ls.length).all fun k => pfB k ls.length (ls.getD k []).length
def joL (ls : List (List UInt8)) : List UInt8 := if joB ls then ls.flatten else []
def joE (ls : List (List UInt8)) : Int := if joB ls then 0 else 2
theorem joB_iff {ls : List (List UInt8)} : joB ls = true ↔ ls ≠ [] ∧ ∀ k (h : k < ls.length), pfB k ls.length ls[k].length = true := by
  unfold joB
  simp only [Bool.and_eq_true, decide_eq_true_eq, List.all_eq_true, List.mem_range]
  constructor
  · rintro ⟨h1, h2⟩
    refine ⟨h1, fun k hk => ?_⟩
    have := h2 k hk
    rwa [List.getD_eq_getElem?_getD, List.getElem?_eq_getElem hk] at this
  · rintro ⟨h1, h2⟩
    refine ⟨h1, fun k hk => ?_⟩
    have := h2 k hk
    rwa [List.getD_eq_getElem?_getD, List.getElem?_eq_getElem hk]
theorem flat_le : ∀ (ls : List (List UInt8)) (m : Nat), (∀ x ∈ ls, x.length ≤ m) → ls.flatten.length ≤ ls.length * m
  | [], m, _ => by simp
  | x :: ls, m, h => by
    have h1 := flat_le ls m (fun y hy => h y (List.mem_cons_of_mem _ hy))
    have h2 := h x List.mem_cons_self
    rw [List.flatten_cons, List.length_append, List.length_cons, Nat.add_mul]
    omega
theorem joB_flat {ls : List (List UInt8)} (h : joB ls = true) : ls.length ≤ 8 ∧ ls.flatten.length ≤ 640 := by
  obtain ⟨h1, h2⟩ := joB_iff.1 h
  have hp := List.length_pos_iff.2 h1
  have h3 := pfB_iff.1 (h2 0 hp)
  have h4 := flat_le ls 80 (fun x hx => by
    obtain ⟨i, hi, rfl⟩ := List.getElem_of_mem hx
    have := pfB_iff.1 (h2 i hi)
    omega)
  omega
theorem joB_no {ls : List (List UInt8)} {k : Nat} (hk : k < ls.length) (h : pfB k ls.length ls[k].length = false) : joB ls = false := by
  cases e : joB ls
  · rfl
  · have := (joB_iff.1 e).2 k hk
    rw [h] at this
    cases this
/-- new bytes, an error -/
theorem joB_nil : joB [] = false := rfl
set_option maxRecDepth 100000 in
set_option maxHeartbeats 2000000 in
theorem pjoin_any (A : Option Addr) (c : Nat) (ls : List (List UInt8)) (w : World) (hr : RdL w A ls) (hc : ls.length ≤ 1000) (hx : ∀ x ∈ ls, x.length ≤ 1000000) :
    Calls Try.prog 33 #[.slice A ls.length c] w (RetBI w (joL ls) (joE ls)) := by
  by_cases h0 : ls = []
  · subst h0
    go_enter Try.func33, Try.ntmps33
    go_wp2_with fail
    go_ret2
    exact ⟨none, 0, rfl, Own.none_ _ _, Below.refl _ _⟩
  · have hp := List.length_pos_iff.2 h0
    have HX := Lib.hid hx
    clear hx
    have hn0 : ((ls.length : Int) == 0) = false := by rw [beq_eq_false_iff_ne]; omega
    have H0 := Lib.hid h0
    clear h0
    go_enter Try.func33, Try.ntmps33
    go_wp2_with fail
    go_loopw [11] (fun i wr => ∃ k : Nat, k ≤ ls.length ∧ i = .int .i64 k ∧ Hid (∀ j (h : j < ls.length), j < k → pfB j ls.length ls[j].length = true) ∧ Below w.heap.size w wr) (fun i _ => ls.length - (intOf i).toNat)
    case atStart => exact ⟨0, Nat.zero_le _, rfl, Lib.hid (fun j _ h => absurd h (by omega)), Below.refl _ _⟩
    case round =>
      obtain ⟨k, hk, rfl, HS, hb⟩ := hrel
      by_cases hlt : k < ls.length
      · obtain ⟨b, o, rfl, A2, c2, hcell, hr2⟩ := (hr.below hb).at_ hlt
        have hxl := HX.out ls[k] (List.getElem_mem hlt)
        obtain ⟨m, hm⟩ : ∃ m, ls[k].length = m := ⟨_, rfl⟩
        have HM := Lib.hid hm
        rw [hm] at hcell hxl
        clear hm
        cases hf : pfB k ls.length m
        · have HJ : Hid (joB ls = false) := Lib.hid (joB_no hlt (by rw [HM.out]; exact hf))
          go_wp2_with fail
          with_reducible refine (pfits_v hf _).mono ?_
          rintro e w1 ⟨rfl, hb1⟩
          go_wp2_with fail
          go_ret2
          rw [joL, joE, HJ.out]
          exact ⟨none, 0, rfl, Own.none_ _ _, bt hb hb1⟩
        · go_wp2_with fail
          with_reducible refine (pfits_v hf _).mono ?_
          rintro e w1 ⟨rfl, hb1⟩
          go_wp2_with fail
          go_roundw
          case measure => simp [intOf]; omega
          case rel =>
            refine ⟨k + 1, hlt, by go_num, Lib.hid (fun j hj hjk => ?_), bt hb hb1⟩
            by_cases e : j = k
            · subst e; rw [HM.out]; exact hf
            · exact HS.out j hj (by omega)
      · obtain rfl : k = ls.length := by omega
        have hj : joB ls = true := joB_iff.2 ⟨H0.out, fun j hj => HS.out j hj hj⟩
        have hfl := joB_flat hj
        have HJ := Lib.hid hj
        clear hj
        have hfl2 := hfl.2
        clear hfl
        obtain ⟨F, hF⟩ : ∃ F, ls.flatten = F := ⟨_, rfl⟩
        have HF := Lib.hid hF
        rw [hF] at hfl2
        clear hF
        go_wp2_with fail
        with_reducible refine (concat_v HF.out A c _ (hr.below hb) hc (by rw [HF.out]; omega)).mono ?_
        rintro e w1 ⟨A3, c3, rfl, hown, hb1⟩
        go_wp2_with fail
        go_ret2
        have eL : joL ls = F := by rw [joL, HJ.out, if_pos rfl]; exact HF.out
        have eE : joE ls = 0 := by rw [joE, HJ.out, if_pos rfl]
        rw [eL, eE]
        exact ⟨A3, c3, rfl, hown.mono hb.size, bt hb hb1⟩
set_option maxRecDepth 100000 in
set_option maxHeartbeats 2000000 in
theorem rpjoin_any (A : Option Addr) (c : Nat) (ls : List (List UInt8)) (w : World) (hr : RdL w A ls) (hc : ls.length ≤ 1000) (hx : ∀ x ∈ ls, x.length ≤ 1000000) :
    Calls Try.prog 34 #[.slice A ls.length c] w (RetBI w (joL ls) (joE ls)) := by
  by_cases h0 : ls = []
  · subst h0
    go_enter Try.func34, Try.ntmps34
    go_wp2_with fail
    go_ret2
    exact ⟨none, 0, rfl, Own.none_ _ _, Below.refl _ _⟩
  · have hp := List.length_pos_iff.2 h0
    have HX := Lib.hid hx
    clear hx
    have hn0 : ((ls.length : Int) == 0) = false := by rw [beq_eq_false_iff_ne]; omega
    have H0 := Lib.hid h0
    clear h0
    go_enter Try.func34, Try.ntmps34
    go_wp2_with fail
    go_loopw [4, 5] (fun v i wr => ∃ (k : Nat) (A1 : Option Addr) (c1 : Nat), k ≤ ls.length ∧ i = .int .i64 k ∧ Hid (∀ j (h : j < ls.length), j < k → pfB j ls.length ls[j].length = true) ∧ v = .slice A1 (ls.take k).flatten.length c1 ∧ Own wr w.heap.size A1 c1 (ls.take k).flatten ∧ Below w.heap.size w wr) (fun _ i _ => ls.length - (intOf i).toNat)
    case atStart => exact ⟨0, none, 0, Nat.zero_le _, rfl, Lib.hid (fun j _ h => absurd h (by omega)), rfl, Own.none_ _ _, Below.refl _ _⟩
    case round =>
      obtain ⟨k, A1, c1, hk, rfl, HS, rfl, hown, hb⟩ := hrel
      by_cases hlt : k < ls.length
      · obtain ⟨b, o, rfl, A2, c2, hcell, hr2⟩ := (hr.below hb).at_ hlt
        have hxl := HX.out ls[k] (List.getElem_mem hlt)
        obtain ⟨P, HP⟩ : ∃ P, Hid (P = (ls.take k).flatten) := ⟨_, Lib.hid rfl⟩
        obtain ⟨X, HXX⟩ : ∃ X, Hid (X = ls[k]) := ⟨_, Lib.hid rfl⟩
        rw [← HP.out] at hown ⊢
        rw [← HXX.out] at hr2 hcell hxl
        cases hf : pfB k ls.length X.length
        · have HJ : Hid (joB ls = false) := Lib.hid (joB_no hlt (by rw [← HXX.out]; exact hf))
          go_wp2_with fail
          with_reducible refine (rpfits_v hf _).mono ?_
          rintro e w1 ⟨rfl, hb1⟩
          go_wp2_with fail
          go_ret2
          rw [joL, joE, HJ.out]
          exact ⟨none, 0, rfl, Own.none_ _ _, bt hb hb1⟩
        · have hP : P.length ≤ 1000 * 1000000 := by
            rw [HP.out]
            have := flat_le (ls.take k) 1000000 (fun x hx => HX.out x (List.mem_of_mem_take hx))
            rw [List.length_take] at this
            have h2 : min k ls.length * 1000000 ≤ 1000 * 1000000 := Nat.mul_le_mul_right _ (by omega)
            exact Nat.le_trans this h2
          have hlen2 : P.length + X.length ≤ 140737488355328 := by omega
          go_wp2_with fail
          with_reducible refine (rpfits_v hf _).mono ?_
          rintro e w1 ⟨rfl, hb1⟩
          have hown1 := hown.below hb1
          have hr3 := hr2.below hb1
          have hcell1 : w1.cell? ⟨b, o + k, none⟩ = some (.slice A2 X.length c2) := (hb1.cell (World.block_lt_of_cell? _ _ hcell)).trans hcell
          have hbb := bt hb hb1
          have HS2 : Hid (∀ j (h : j < ls.length), j < k + 1 → pfB j ls.length ls[j].length = true) := Lib.hid (fun j hj hjk => by
            by_cases e : j = k
            · subst e; rw [← HXX.out]; exact hf
            · exact HS.out j hj (by omega))
          clear HS
          clear hf hP hxl hcell hr2 hb1 hown hb hn0 hp
          go_wp2_with (at_builtin; refine wpList_append_bytes _ rfl _ _ rfl w.heap.size A1 P.length c1 P rfl rfl hown1 A2 X.length c2 X rfl rfl hr3 hlen2 hbb.size ?_; intro A3 c3 w3 hown3 hb3 _)
          go_roundw
          case measure => simp [intOf]; omega
          case rel =>
            have e : P ++ X = (ls.take (k + 1)).flatten := by rw [flatten_take_succ ls k hlt, HP.out, HXX.out]
            rw [e] at hown3
            refine ⟨k + 1, A3, c3, hlt, by go_num, HS2, by rw [← e, List.length_append], hown3, hbb.trans hb3⟩
      · obtain rfl : k = ls.length := by omega
        have hj : joB ls = true := joB_iff.2 ⟨H0.out, fun j hj => HS.out j hj hj⟩
        have HJ := Lib.hid hj
        clear hj
        rw [List.take_length] at hown ⊢
        go_wp2_with fail
        go_ret2
        rw [joL, joE, HJ.out, if_pos rfl, if_pos rfl]
        exact ⟨A1, c1, rfl, hown, hb⟩
end Go.Proofs.Ytanpglhpmfdnmaa
