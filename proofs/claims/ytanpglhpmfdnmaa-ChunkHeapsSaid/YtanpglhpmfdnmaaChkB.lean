/-
  CHUNKS: what is cut, put together; what is put together, cut (plain); great, lists.
-/
import Derived.Test.YtanpglhpmfdnmaaChkL
namespace Go.Proofs.Ytanpglhpmfdnmaa
open Go.RowKit
set_option linter.unusedVariables false
set_option linter.unusedSimpArgs false
theorem nCh_pos (n : Nat) : 1 ≤ nCh n := by unfold nCh; split <;> omega
theorem nCh_cases (n : Nat) : (n = 0 ∧ nCh n = 1) ∨ (0 < n ∧ nCh n = (n + 79) / 80) := by unfold nCh; split <;> omega
theorem nCh_le {n : Nat} (h : n ≤ 640) : nCh n ≤ 8 := by unfold nCh; split <;> omega
theorem spl_len (l : List UInt8) : (spl l).length = nCh l.length := by simp [spl]
theorem spl_get (l : List UInt8) (k : Nat) (h : k < (spl l).length) : (spl l)[k] = (l.drop (80 * k)).take 80 := by simp [spl]
theorem spl_take (l : List UInt8) : ∀ m, ((List.range m).map fun k => (l.drop (80 * k)).take 80).flatten = l.take (80 * m)
  | 0 => by simp
  | m + 1 => by
    rw [List.range_succ, List.map_append, List.flatten_append, spl_take l m]
    simp only [List.map_cons, List.map_nil, List.flatten_cons, List.flatten_nil, List.append_nil]
    rw [show 80 * (m + 1) = 80 * m + 80 by omega, List.take_add]
theorem spl_flat (l : List UInt8) : (spl l).flatten = l := by
  unfold spl
  rw [spl_take, List.take_of_length_le]
  unfold nCh
  split <;> omega
theorem spl_jo {l : List UInt8} (h : l.length ≤ 640) : joB (spl l) = true := by
  have hp := nCh_pos l.length
  have h8 := nCh_le h
  refine joB_iff.2 ⟨fun e => ?_, fun k hk => ?_⟩
  · have := spl_len l
    rw [e] at this
    simp at this
    omega
  · rw [spl_get]
    rw [spl_len] at hk ⊢
    have hl : ((l.drop (80 * k)).take 80).length = min 80 (l.length - 80 * k) := by simp
    rw [hl]
    have hc := nCh_cases l.length
    generalize nCh l.length = N at *
    generalize l.length = n at *
    refine pfB_iff.2 ⟨by omega, by omega, by omega, by omega, by omega, ?_, ?_⟩
    · intro e
      omega
    · intro e
      omega
theorem take_len {ls : List (List UInt8)} (h : ∀ k (h : k < ls.length), k + 1 < ls.length → ls[k].length = 80) : ∀ k, k < ls.length → (ls.take k).flatten.length = 80 * k
  | 0, _ => by simp
  | k + 1, hk => by
    have := take_len h k (by omega)
    rw [flatten_take_succ ls k (by omega), List.length_append, this, h k (by omega) hk]
    omega
theorem jo_spl {ls : List (List UInt8)} (h : joB ls = true) : spl ls.flatten = ls := by
  obtain ⟨h0, hf⟩ := joB_iff.1 h
  have hp := List.length_pos_iff.2 h0
  have h80 : ∀ k (h : k < ls.length), k + 1 < ls.length → ls[k].length = 80 := by
    intro k hk hk1
    have := (pfB_iff.1 (hf k hk)).2.2.2.2.2.2 (by omega)
    omega
  have hlast := pfB_iff.1 (hf (ls.length - 1) (by omega))
  have hflat : ls.flatten.length = 80 * (ls.length - 1) + (ls[ls.length - 1]'(by omega)).length := by
    have h1 := take_len h80 (ls.length - 1) (by omega)
    have h2 := flatten_take_succ ls (ls.length - 1) (by omega)
    rw [show ls.length - 1 + 1 = ls.length by omega, List.take_length] at h2
    rw [h2, List.length_append, h1]
  have hn : nCh ls.flatten.length = ls.length := by
    obtain ⟨_, _, _, _, g5, g6, _⟩ := hlast
    have g6 := g6 (by omega)
    rw [hflat]
    obtain ⟨r, hr⟩ : ∃ r, (ls[ls.length - 1]'(by omega)).length = r := ⟨_, rfl⟩
    rw [hr] at g5 g6 ⊢
    have hc := nCh_cases (80 * (ls.length - 1) + r)
    generalize nCh (80 * (ls.length - 1) + r) = N at *
    omega
  refine List.ext_getElem (by rw [spl_len, hn]) fun k hk1 hk2 => ?_
  rw [spl_get]
  have e : ls.flatten = (ls.take k).flatten ++ (ls[k] ++ (ls.drop (k + 1)).flatten) := by
    rw [← List.append_assoc, ← flatten_take_succ ls k hk2, ← List.flatten_append, List.take_append_drop]
  have hl := take_len h80 k hk2
  rw [e, ← hl, List.drop_left]
  have hk80 : ls[k].length ≤ 80 := by have := (pfB_iff.1 (hf k hk2)).2.2.2.2.1; omega
  by_cases hkl : k + 1 < ls.length
  · have := h80 k hk2 hkl
    rw [List.take_append_of_le_length (by omega), List.take_of_length_le (by omega)]
  · rw [List.drop_of_length_le (by omega), List.flatten_nil, List.append_nil, List.take_of_length_le hk80]
/-! great, lists. -/
def grL (ls : List (List UInt8)) : Bool := decide (12 < ls.length) || ls.any fun x => decide (200 < x.length)
theorem grL_no {ls : List (List UInt8)} (h : grL ls = false) : ls.length ≤ 12 ∧ ∀ x ∈ ls, x.length ≤ 200 := by
  simp only [grL, Bool.or_eq_false_iff, decide_eq_false_iff_not, List.any_eq_false, decide_eq_true_eq] at h
  exact ⟨by omega, fun x hx => by have := h.2 x hx; omega⟩
set_option maxHeartbeats 1000000 in
theorem great12_any (A : Option Addr) (c : Nat) (ls : List (List UInt8)) (w : World) (hr : RdL w A ls) (hc : ls.length ≤ c) (hm : c ≤ maxLen) : Calls Try.prog 29 #[.slice A ls.length c] w (RetV w (.bool (grL ls))) := by
  unfold maxLen at hm
  cases h12 : decide ((12 : Int) < ls.length)
  · have hl : ls.length ≤ 12 := by have := of_decide_eq_false h12; omega
    have HL := Lib.hid hl
    go_enter Try.func29, Try.ntmps29
    go_wp2_with fail
    go_loopw [3] (fun i wr => ∃ k : Nat, k ≤ ls.length ∧ i = .int .i64 k ∧ Hid (∀ j (h : j < ls.length), j < k → ls[j].length ≤ 200) ∧ Below w.heap.size w wr) (fun i _ => ls.length - (intOf i).toNat)
    case atStart => exact ⟨0, Nat.zero_le _, rfl, Lib.hid (fun j _ h => absurd h (by omega)), Below.refl _ _⟩
    case round =>
      obtain ⟨k, hk, rfl, HS, hb⟩ := hrel
      by_cases hlt : k < ls.length
      · obtain ⟨b, o, rfl, A2, c2, hcell, hr2⟩ := (hr.below hb).at_ hlt
        obtain ⟨m, hm2⟩ : ∃ m, ls[k].length = m := ⟨_, rfl⟩
        have HM := Lib.hid hm2
        rw [hm2] at hcell
        clear hm2
        cases hg : decide ((200 : Int) < m)
        · have HS2 : Hid (∀ j (h : j < ls.length), j < k + 1 → ls[j].length ≤ 200) := Lib.hid (fun j hj hjk => by
            by_cases e : j = k
            · subst e; rw [HM.out]; have := of_decide_eq_false hg; omega
            · exact HS.out j hj (by omega))
          go_wp2_with fail
          go_roundw
          case measure => simp [intOf]; omega
          case rel => exact ⟨k + 1, hlt, by go_num, HS2, hb⟩
        · have HG : Hid (grL ls = true) := Lib.hid (by
            unfold grL
            rw [Bool.or_eq_true]
            right
            rw [List.any_eq_true]
            exact ⟨ls[k], List.getElem_mem hlt, decide_eq_true (by rw [HM.out]; have := of_decide_eq_true hg; omega)⟩)
          go_wp2_with fail
          go_ret
          exact ⟨ret_bool HG.out.symm, hb⟩
      · obtain rfl : k = ls.length := by omega
        have HG : Hid (grL ls = false) := Lib.hid (by
          unfold grL
          rw [Bool.or_eq_false_iff]
          refine ⟨decide_eq_false (by have := HL.out; omega), ?_⟩
          rw [List.any_eq_false]
          intro x hx
          obtain ⟨j, hj, rfl⟩ := List.getElem_of_mem hx
          have := HS.out j hj hj
          simp
          omega)
        go_wp2_with fail
        go_ret
        exact ⟨ret_bool HG.out.symm, hb⟩
  · have HG : Hid (grL ls = true) := Lib.hid (by unfold grL; rw [Bool.or_eq_true]; exact .inl (decide_eq_true (by have := of_decide_eq_true h12; omega)))
    go_enter Try.func29, Try.ntmps29
    go_wp2_with fail
    go_ret
    exact ⟨ret_bool HG.out.symm, Below.refl _ _⟩
set_option maxRecDepth 100000 in
set_option maxHeartbeats 1000000 in
theorem lists_self (A B : Option Addr) (c d : Nat) (ls : List (List UInt8)) (w : World) (ha : RdL w A ls) (hb : RdL w B ls) (hl : ls.length ≤ 1000) (hm : ∀ x ∈ ls, x.length ≤ maxLen) :
    Calls Try.prog 32 #[.slice A ls.length c, .slice B ls.length d] w (RetV w (.bool true)) := by
  have H := Hp.nil w
  go_enter Try.func32, Try.ntmps32
  go_wp2_with (first | ((with_reducible refine Hp.box H ?_); (first | refine ⟨rfl, [.pointer _], rfl, ?_⟩ | refine ⟨rfl, [.int _ _], rfl, ?_⟩ | refine ⟨rfl, [.slice _ _ _], rfl, ?_⟩ | refine ⟨rfl, [.bool _], rfl, ?_⟩ | refine ⟨rfl, [.string _], rfl, ?_⟩ | refine ⟨rfl, _, rfl, ?_⟩); (clear H; intro g1 w1 H); go_frame) | ((with_reducible refine Hp.allo H ?_); refine ⟨rfl, ?_⟩; refine ⟨_, z_look rfl, ?_⟩; (clear H; intro g1 w1 H); go_frame) | ((with_reducible refine Hp.ld H ?_); refine ⟨rfl, ?_⟩; refine ⟨c_look rfl, ?_⟩; refine ⟨_, _, rfl, ?_⟩; ((repeat ((fail_if_success refine ⟨_, _, _, .z, ?_⟩); refine hs ?_)); refine ⟨_, _, _, .z, ?_⟩); refine ⟨_, rfl, ?_⟩; go_frame) | ((with_reducible refine Hp.lda H ?_); refine ⟨rfl, by kernel_rfl, ?_⟩; refine ⟨_, s_look rfl, ?_⟩; refine ⟨_, rfl, ?_⟩; ((repeat ((fail_if_success refine ⟨_, _, _, .z, ?_⟩); refine hs ?_)); refine ⟨_, _, _, .z, ?_⟩); refine ⟨rfl, ?_⟩; go_frame) | ((with_reducible refine Hp.lds H ?_); refine ⟨rfl, by kernel_rfl, ?_⟩; refine ⟨_, s_look rfl, ?_⟩; refine ⟨_, _, rfl, ?_⟩; ((repeat ((fail_if_success refine ⟨_, _, _, .z, ?_⟩); refine hs ?_)); refine ⟨_, _, _, .z, ?_⟩); (first | refine ⟨[_, _], rfl, rfl, ?_⟩ | refine ⟨[_, _, _, _], rfl, rfl, ?_⟩ | refine ⟨[_, _, _, _, _, _, _], rfl, rfl, ?_⟩ | refine ⟨[_, _, _], rfl, rfl, ?_⟩ | (fail)); go_frame) | ((with_reducible refine Hp.sto H ?_); refine ⟨rfl, ?_⟩; refine ⟨c_look rfl, ?_⟩; refine ⟨_, _, rfl, ?_⟩; ((repeat ((fail_if_success refine ⟨_, _, _, .z, ?_⟩); refine hs ?_)); refine ⟨_, _, _, .z, ?_⟩); refine ⟨⟨_, rfl⟩, rfl, ?_⟩; (clear H; intro w1 H; simp only [List.set] at H); go_frame) | ((with_reducible refine Hp.sta H ?_); refine ⟨rfl, ?_⟩; refine ⟨_, s_look rfl, ?_⟩; refine ⟨_, rfl, _, rfl, rfl, ?_⟩; ((repeat ((fail_if_success refine ⟨_, _, _, .z, ?_⟩); refine hs ?_)); refine ⟨_, _, _, .z, ?_⟩); refine ⟨rfl, rfl, ?_⟩; (clear H; intro w1 H; simp only [List.set] at H); go_frame) | ((with_reducible refine Hp.str H ?_); refine ⟨rfl, ?_⟩; refine ⟨_, s_look rfl, ?_⟩; refine ⟨_, _, rfl, _, rfl, rfl, ?_⟩; ((repeat ((fail_if_success refine ⟨_, _, _, .z, ?_⟩); refine hs ?_)); refine ⟨_, _, _, .z, ?_⟩); refine ⟨rfl, _, rfl, _, rfl, Nat.le_of_ble_eq_true rfl, ?_⟩; (clear H; intro w1 H; simp only [List.set] at H); go_frame) | ((with_reducible refine Hp.bdl H ?_); (fail); go_frame) | (fail))
  go_loopw [5] (fun i wr => ∃ k : Nat, k ≤ ls.length ∧ i = .int .i64 k ∧ Hp w wr []) (fun i _ => ls.length - (intOf i).toNat)
  case atStart => exact ⟨0, Nat.zero_le _, rfl, H⟩
  case round =>
    clear H
    obtain ⟨k, hk, rfl, H⟩ := hrel
    by_cases hlt : k < ls.length
    · obtain ⟨b, o, rfl, A2, c2, q1, r1⟩ := ha.at_ hlt
      obtain ⟨b', o', rfl, B2, d2, q2, r2⟩ := hb.at_ hlt
      have hx := hm _ (List.getElem_mem hlt)
      obtain ⟨l, hle⟩ : ∃ l, ls[k] = l := ⟨_, rfl⟩
      rw [hle] at q1 q2 r1 r2 hx
      clear hle
      go_wp2_with (first | ((with_reducible refine Hp.box H ?_); (first | refine ⟨rfl, [.pointer _], rfl, ?_⟩ | refine ⟨rfl, [.int _ _], rfl, ?_⟩ | refine ⟨rfl, [.slice _ _ _], rfl, ?_⟩ | refine ⟨rfl, [.bool _], rfl, ?_⟩ | refine ⟨rfl, [.string _], rfl, ?_⟩ | refine ⟨rfl, _, rfl, ?_⟩); (clear H; intro g1 w1 H); go_frame) | ((with_reducible refine Hp.allo H ?_); refine ⟨rfl, ?_⟩; refine ⟨_, z_look rfl, ?_⟩; (clear H; intro g1 w1 H); go_frame) | ((with_reducible refine Hp.ld H ?_); refine ⟨rfl, ?_⟩; refine ⟨c_look rfl, ?_⟩; refine ⟨_, _, rfl, ?_⟩; ((repeat ((fail_if_success refine ⟨_, _, _, .z, ?_⟩); refine hs ?_)); refine ⟨_, _, _, .z, ?_⟩); refine ⟨_, rfl, ?_⟩; go_frame) | ((with_reducible refine Hp.lda H ?_); refine ⟨rfl, by kernel_rfl, ?_⟩; refine ⟨_, s_look rfl, ?_⟩; refine ⟨_, rfl, ?_⟩; ((repeat ((fail_if_success refine ⟨_, _, _, .z, ?_⟩); refine hs ?_)); refine ⟨_, _, _, .z, ?_⟩); refine ⟨rfl, ?_⟩; go_frame) | ((with_reducible refine Hp.lds H ?_); refine ⟨rfl, by kernel_rfl, ?_⟩; refine ⟨_, s_look rfl, ?_⟩; refine ⟨_, _, rfl, ?_⟩; ((repeat ((fail_if_success refine ⟨_, _, _, .z, ?_⟩); refine hs ?_)); refine ⟨_, _, _, .z, ?_⟩); (first | refine ⟨[_, _], rfl, rfl, ?_⟩ | refine ⟨[_, _, _, _], rfl, rfl, ?_⟩ | refine ⟨[_, _, _, _, _, _, _], rfl, rfl, ?_⟩ | refine ⟨[_, _, _], rfl, rfl, ?_⟩ | (fail)); go_frame) | ((with_reducible refine Hp.sto H ?_); refine ⟨rfl, ?_⟩; refine ⟨c_look rfl, ?_⟩; refine ⟨_, _, rfl, ?_⟩; ((repeat ((fail_if_success refine ⟨_, _, _, .z, ?_⟩); refine hs ?_)); refine ⟨_, _, _, .z, ?_⟩); refine ⟨⟨_, rfl⟩, rfl, ?_⟩; (clear H; intro w1 H; simp only [List.set] at H); go_frame) | ((with_reducible refine Hp.sta H ?_); refine ⟨rfl, ?_⟩; refine ⟨_, s_look rfl, ?_⟩; refine ⟨_, rfl, _, rfl, rfl, ?_⟩; ((repeat ((fail_if_success refine ⟨_, _, _, .z, ?_⟩); refine hs ?_)); refine ⟨_, _, _, .z, ?_⟩); refine ⟨rfl, rfl, ?_⟩; (clear H; intro w1 H; simp only [List.set] at H); go_frame) | ((with_reducible refine Hp.str H ?_); refine ⟨rfl, ?_⟩; refine ⟨_, s_look rfl, ?_⟩; refine ⟨_, _, rfl, _, rfl, rfl, ?_⟩; ((repeat ((fail_if_success refine ⟨_, _, _, .z, ?_⟩); refine hs ?_)); refine ⟨_, _, _, .z, ?_⟩); refine ⟨rfl, _, rfl, _, rfl, Nat.le_of_ble_eq_true rfl, ?_⟩; (clear H; intro w1 H; simp only [List.set] at H); go_frame) | ((with_reducible refine Hp.bdl H ?_); (fail); go_frame) | (fail))
      ((with_reducible refine wp_region_hpK H (by kernel_rfl) (by kernel_rfl) ?_); intro _ KQ hKQ; (repeat (first | go_big_quiet_skip | ((with_reducible refine hq_ld ?_); refine ⟨rfl, ?_⟩; refine ⟨c_look rfl, ?_⟩; refine ⟨_, _, rfl, ?_⟩; ((repeat ((fail_if_success refine ⟨_, _, _, .z, ?_⟩); refine hs ?_)); refine ⟨_, _, _, .z, ?_⟩); refine ⟨_, rfl, ?_⟩; go_frame) | ((with_reducible refine hq_lda ?_); refine ⟨rfl, by kernel_rfl, ?_⟩; refine ⟨_, s_look rfl, ?_⟩; refine ⟨_, rfl, ?_⟩; ((repeat ((fail_if_success refine ⟨_, _, _, .z, ?_⟩); refine hs ?_)); refine ⟨_, _, _, .z, ?_⟩); refine ⟨rfl, ?_⟩; go_frame) | ((with_reducible refine hq_lds ?_); refine ⟨rfl, by kernel_rfl, ?_⟩; refine ⟨_, s_look rfl, ?_⟩; refine ⟨_, _, rfl, ?_⟩; ((repeat ((fail_if_success refine ⟨_, _, _, .z, ?_⟩); refine hs ?_)); refine ⟨_, _, _, .z, ?_⟩); (first | refine ⟨[_, _], rfl, rfl, ?_⟩ | refine ⟨[_, _, _, _], rfl, rfl, ?_⟩ | refine ⟨[_, _, _, _, _, _, _], rfl, rfl, ?_⟩ | refine ⟨[_, _, _], rfl, rfl, ?_⟩ | (fail)); go_frame) | ((with_reducible refine hq_bdl ?_); (fail); go_frame) | ((with_reducible refine hq_ldo ?_); refine ⟨rfl, by kernel_rfl, _, rfl, _, ‹_›, ?_⟩; go_frame) | go_big_quiet_step ((with_reducible exact hq_call (same_s A2 B2 c2 d2 l _ (HpS.rd _ r1) (HpS.rd _ r2) hx))))); (with_reducible refine wpQuiet_nil (hKQ _ ?_)); clear hKQ; clear KQ H; intro w1 H)
      go_wp2_with (first | ((with_reducible refine Hp.box H ?_); (first | refine ⟨rfl, [.pointer _], rfl, ?_⟩ | refine ⟨rfl, [.int _ _], rfl, ?_⟩ | refine ⟨rfl, [.slice _ _ _], rfl, ?_⟩ | refine ⟨rfl, [.bool _], rfl, ?_⟩ | refine ⟨rfl, [.string _], rfl, ?_⟩ | refine ⟨rfl, _, rfl, ?_⟩); (clear H; intro g1 w1 H); go_frame) | ((with_reducible refine Hp.allo H ?_); refine ⟨rfl, ?_⟩; refine ⟨_, z_look rfl, ?_⟩; (clear H; intro g1 w1 H); go_frame) | ((with_reducible refine Hp.ld H ?_); refine ⟨rfl, ?_⟩; refine ⟨c_look rfl, ?_⟩; refine ⟨_, _, rfl, ?_⟩; ((repeat ((fail_if_success refine ⟨_, _, _, .z, ?_⟩); refine hs ?_)); refine ⟨_, _, _, .z, ?_⟩); refine ⟨_, rfl, ?_⟩; go_frame) | ((with_reducible refine Hp.lda H ?_); refine ⟨rfl, by kernel_rfl, ?_⟩; refine ⟨_, s_look rfl, ?_⟩; refine ⟨_, rfl, ?_⟩; ((repeat ((fail_if_success refine ⟨_, _, _, .z, ?_⟩); refine hs ?_)); refine ⟨_, _, _, .z, ?_⟩); refine ⟨rfl, ?_⟩; go_frame) | ((with_reducible refine Hp.lds H ?_); refine ⟨rfl, by kernel_rfl, ?_⟩; refine ⟨_, s_look rfl, ?_⟩; refine ⟨_, _, rfl, ?_⟩; ((repeat ((fail_if_success refine ⟨_, _, _, .z, ?_⟩); refine hs ?_)); refine ⟨_, _, _, .z, ?_⟩); (first | refine ⟨[_, _], rfl, rfl, ?_⟩ | refine ⟨[_, _, _, _], rfl, rfl, ?_⟩ | refine ⟨[_, _, _, _, _, _, _], rfl, rfl, ?_⟩ | refine ⟨[_, _, _], rfl, rfl, ?_⟩ | (fail)); go_frame) | ((with_reducible refine Hp.sto H ?_); refine ⟨rfl, ?_⟩; refine ⟨c_look rfl, ?_⟩; refine ⟨_, _, rfl, ?_⟩; ((repeat ((fail_if_success refine ⟨_, _, _, .z, ?_⟩); refine hs ?_)); refine ⟨_, _, _, .z, ?_⟩); refine ⟨⟨_, rfl⟩, rfl, ?_⟩; (clear H; intro w1 H; simp only [List.set] at H); go_frame) | ((with_reducible refine Hp.sta H ?_); refine ⟨rfl, ?_⟩; refine ⟨_, s_look rfl, ?_⟩; refine ⟨_, rfl, _, rfl, rfl, ?_⟩; ((repeat ((fail_if_success refine ⟨_, _, _, .z, ?_⟩); refine hs ?_)); refine ⟨_, _, _, .z, ?_⟩); refine ⟨rfl, rfl, ?_⟩; (clear H; intro w1 H; simp only [List.set] at H); go_frame) | ((with_reducible refine Hp.str H ?_); refine ⟨rfl, ?_⟩; refine ⟨_, s_look rfl, ?_⟩; refine ⟨_, _, rfl, _, rfl, rfl, ?_⟩; ((repeat ((fail_if_success refine ⟨_, _, _, .z, ?_⟩); refine hs ?_)); refine ⟨_, _, _, .z, ?_⟩); refine ⟨rfl, _, rfl, _, rfl, Nat.le_of_ble_eq_true rfl, ?_⟩; (clear H; intro w1 H; simp only [List.set] at H); go_frame) | ((with_reducible refine Hp.bdl H ?_); (fail); go_frame) | (fail))
      go_roundw
      case rel => exact ⟨k + 1, hlt, rfl, H⟩
      case measure => show ls.length - ((k : Int) + 1).toNat < ls.length - ((k : Int)).toNat; omega
    · obtain rfl : k = ls.length := by omega
      go_wp2_with (first | ((with_reducible refine Hp.box H ?_); (first | refine ⟨rfl, [.pointer _], rfl, ?_⟩ | refine ⟨rfl, [.int _ _], rfl, ?_⟩ | refine ⟨rfl, [.slice _ _ _], rfl, ?_⟩ | refine ⟨rfl, [.bool _], rfl, ?_⟩ | refine ⟨rfl, [.string _], rfl, ?_⟩ | refine ⟨rfl, _, rfl, ?_⟩); (clear H; intro g1 w1 H); go_frame) | ((with_reducible refine Hp.allo H ?_); refine ⟨rfl, ?_⟩; refine ⟨_, z_look rfl, ?_⟩; (clear H; intro g1 w1 H); go_frame) | ((with_reducible refine Hp.ld H ?_); refine ⟨rfl, ?_⟩; refine ⟨c_look rfl, ?_⟩; refine ⟨_, _, rfl, ?_⟩; ((repeat ((fail_if_success refine ⟨_, _, _, .z, ?_⟩); refine hs ?_)); refine ⟨_, _, _, .z, ?_⟩); refine ⟨_, rfl, ?_⟩; go_frame) | ((with_reducible refine Hp.lda H ?_); refine ⟨rfl, by kernel_rfl, ?_⟩; refine ⟨_, s_look rfl, ?_⟩; refine ⟨_, rfl, ?_⟩; ((repeat ((fail_if_success refine ⟨_, _, _, .z, ?_⟩); refine hs ?_)); refine ⟨_, _, _, .z, ?_⟩); refine ⟨rfl, ?_⟩; go_frame) | ((with_reducible refine Hp.lds H ?_); refine ⟨rfl, by kernel_rfl, ?_⟩; refine ⟨_, s_look rfl, ?_⟩; refine ⟨_, _, rfl, ?_⟩; ((repeat ((fail_if_success refine ⟨_, _, _, .z, ?_⟩); refine hs ?_)); refine ⟨_, _, _, .z, ?_⟩); (first | refine ⟨[_, _], rfl, rfl, ?_⟩ | refine ⟨[_, _, _, _], rfl, rfl, ?_⟩ | refine ⟨[_, _, _, _, _, _, _], rfl, rfl, ?_⟩ | refine ⟨[_, _, _], rfl, rfl, ?_⟩ | (fail)); go_frame) | ((with_reducible refine Hp.sto H ?_); refine ⟨rfl, ?_⟩; refine ⟨c_look rfl, ?_⟩; refine ⟨_, _, rfl, ?_⟩; ((repeat ((fail_if_success refine ⟨_, _, _, .z, ?_⟩); refine hs ?_)); refine ⟨_, _, _, .z, ?_⟩); refine ⟨⟨_, rfl⟩, rfl, ?_⟩; (clear H; intro w1 H; simp only [List.set] at H); go_frame) | ((with_reducible refine Hp.sta H ?_); refine ⟨rfl, ?_⟩; refine ⟨_, s_look rfl, ?_⟩; refine ⟨_, rfl, _, rfl, rfl, ?_⟩; ((repeat ((fail_if_success refine ⟨_, _, _, .z, ?_⟩); refine hs ?_)); refine ⟨_, _, _, .z, ?_⟩); refine ⟨rfl, rfl, ?_⟩; (clear H; intro w1 H; simp only [List.set] at H); go_frame) | ((with_reducible refine Hp.str H ?_); refine ⟨rfl, ?_⟩; refine ⟨_, s_look rfl, ?_⟩; refine ⟨_, _, rfl, _, rfl, rfl, ?_⟩; ((repeat ((fail_if_success refine ⟨_, _, _, .z, ?_⟩); refine hs ?_)); refine ⟨_, _, _, .z, ?_⟩); refine ⟨rfl, _, rfl, _, rfl, Nat.le_of_ble_eq_true rfl, ?_⟩; (clear H; intro w1 H; simp only [List.set] at H); go_frame) | ((with_reducible refine Hp.bdl H ?_); (fail); go_frame) | (fail))
      go_ret
      exact ⟨rfl, H.below⟩
end Go.Proofs.Ytanpglhpmfdnmaa
