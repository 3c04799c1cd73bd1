/-
  THE WALKS OF Same AND Copy (the reference's two words on bytes).
-/
import Derived.Test.YtanpglhpmfdnmaaMem
namespace Go.Proofs.Ytanpglhpmfdnmaa
open Go.RowKit

theorem eqB_self (l : List UInt8) : eqB l l = true := by simp [eqB]

set_option maxHeartbeats 400000 in
theorem same_any (A B : Option Addr) (c d : Nat) (l m : List UInt8) (w : World) (hl : Rd w A l) (hm : Rd w B m) (hc : l.length ≤ maxLen) (hd : m.length ≤ maxLen) :
    Calls Try.prog 15 #[.slice A l.length c, .slice B m.length d] w (RetV w (.bool (eqB l m))) := by
  unfold maxLen at hc hd
  by_cases hlen : l.length = m.length
  · have HLEN := Lib.hid hlen
    rw [hlen] at hc ⊢
    clear hlen
    go_enter Try.func15, Try.ntmps15
    go_wp2_with fail
    go_loopw [5] (fun i wr => ∃ k : Nat, k ≤ m.length ∧ i = .int .i64 k ∧ Hid (l.take k = m.take k) ∧ Below w.heap.size w wr) (fun i _ => m.length - (intOf i).toNat)
    case atStart => exact ⟨0, Nat.zero_le _, rfl, Lib.hid (by simp), Below.refl _ _⟩
    case round =>
      obtain ⟨k, hk, rfl, HT, hb⟩ := hrel
      by_cases hlt : k < m.length
      · have hlt' : k < l.length := by rw [HLEN.out]; exact hlt
        obtain ⟨b1, o1, rfl, hc1⟩ := (hl.below hb).at_ hlt'
        obtain ⟨b2, o2, rfl, hc2⟩ := (hm.below hb).at_ hlt
        have h1 := hc1 k hlt'
        have h2 := hc2 k hlt
        clear hc1 hc2
        by_cases hx : l[k] = m[k]
        · have HX := Lib.hid hx
          rw [hx] at h1
          clear hx
          obtain ⟨x, HX2⟩ : ∃ x, Hid (x = m[k].toNat) := ⟨_, Lib.hid rfl⟩
          rw [← HX2.out] at h1 h2
          go_wp2_with fail
          go_quiet (fail)
          go_wp2_with fail
          go_roundw
          case measure => simp [intOf]; omega
          case rel =>
            refine ⟨k + 1, by omega, by go_num, Lib.hid ?_, ⟨hb.os, hb.tape, hb.output, hb.size, hb.block⟩⟩
            rw [List.take_succ_eq_append_getElem hlt, List.take_succ_eq_append_getElem (by rw [HLEN.out]; exact hlt), HT.out, HX.out]
        · have hne : (((l[k].toNat : Nat) : Int) != ((m[k].toNat : Nat) : Int)) = true := by
            rw [bne_iff_ne]
            intro e
            apply hx
            apply UInt8.toNat_inj.1
            omega
          have hnl : eqB l m = false := by
            unfold eqB
            rw [decide_eq_false_iff_not]
            rintro rfl
            exact hx rfl
          rw [hnl]
          clear hnl hx
          obtain ⟨x, HX⟩ : ∃ x, Hid (x = l[k].toNat) := ⟨_, Lib.hid rfl⟩
          obtain ⟨y, HY⟩ : ∃ y, Hid (y = m[k].toNat) := ⟨_, Lib.hid rfl⟩
          rw [← HX.out] at h1 hne
          rw [← HY.out] at h2 hne
          go_wp2_with fail
          go_quiet (fail)
          go_wp2_with fail
          go_ret
          exact ⟨rfl, ⟨hb.os, hb.tape, hb.output, hb.size, hb.block⟩⟩
      · obtain rfl : k = m.length := by omega
        have : eqB l m = true := by
          unfold eqB
          have := HT.out
          rw [List.take_length, ← HLEN.out, List.take_length] at this
          simpa using this
        have HE := Lib.hid this
        clear this
        go_wp2_with fail
        go_ret
        exact ⟨by rw [HE.out]; rfl, hb⟩
  · have e : eqB l m = false := by
      unfold eqB
      rw [decide_eq_false_iff_not]
      rintro rfl
      exact hlen rfl
    rw [e]
    have hne : (((l.length : Nat) : Int) != ((m.length : Nat) : Int)) = true := by rw [bne_iff_ne]; omega
    clear e
    go_enter Try.func15, Try.ntmps15
    go_wp2_with fail
    go_ret
    exact ⟨rfl, Below.refl _ _⟩

theorem same_n (A B : Option Addr) (c d : Nat) (l m : List UInt8) (n k : Nat) (w : World) (hl : Rd w A l) (hm : Rd w B m) (hc : l.length ≤ maxLen) (hd : m.length ≤ maxLen) (hn : n = l.length) (hk : k = m.length) :
    Calls Try.prog 15 #[.slice A n c, .slice B k d] w (RetV w (.bool (eqB l m))) := by
  subst hn hk
  exact same_any A B c d l m w hl hm hc hd

set_option maxHeartbeats 400000 in
theorem copy_any (A : Option Addr) (c : Nat) (l : List UInt8) (w : World) (hl : Rd w A l) (hc : l.length ≤ 140737488355328) :
    Calls Try.prog 10 #[.slice A l.length c] w (RetB w l) := by
  go_enter Try.func10, Try.ntmps10
  go_wp2_with (at_builtin; refine wpList_append_bytes _ rfl _ _ rfl w.heap.size none 0 0 [] rfl rfl (Own.none_ _ _) A l.length c l rfl rfl hl (by simpa using hc) (Nat.le_refl _) ?_; intro A1 c1 w1 hown1 hb1 _)
  go_ret
  exact ⟨A1, c1, rfl, hown1, hb1⟩
end Go.Proofs.Ytanpglhpmfdnmaa
