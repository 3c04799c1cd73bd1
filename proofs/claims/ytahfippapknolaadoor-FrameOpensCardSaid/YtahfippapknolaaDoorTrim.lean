/-
  THE WALKS OF bytes.Trim AT ONE NOUGHT, AND OF noughts, blank.
-/
import Derived.Test.YtahfippapknolaaDoorRet
import Derived.Deep.RegionHeld3
namespace Go.Proofs.YtahfippapknolaaDoor
open Go.RowKit
set_option linter.unusedVariables false

/-- are these noughts alone? -/
def zeroB (l : List UInt8) : Bool := l.all fun x => x == 0
theorem zeroB_iff (l : List UInt8) : zeroB l = true ↔ ∀ i (h : i < l.length), l[i] = 0 := by
  unfold zeroB
  rw [List.all_eq_true]
  constructor
  · intro h i hi
    simpa using h _ (List.getElem_mem hi)
  · intro h x hx
    obtain ⟨i, hi, rfl⟩ := List.getElem_of_mem hx
    simpa using h i hi
def sliceN' : Value → Nat | .slice _ n _ => n | _ => 0

set_option maxHeartbeats 1000000 in
theorem trimR_any (A : Option Addr) (c : Nat) (l : List UInt8) (n : Nat) (w : World) (hr : Rd w A l) (hn : n = l.length) (hc : l.length ≤ c) (hm : c ≤ maxLen) :
    Calls Tryd.prog 47 #[.slice A n c, .int .u8 0] w fun e w' => (∃ m : Nat, m ≤ l.length ∧ e = .returned (.slice A m c) ∧ (∀ i (h : i < l.length), m ≤ i → l[i] = 0) ∧ (m = 0 ∨ ∃ h : m - 1 < l.length, l[m - 1] ≠ 0)) ∧ w = w' := by
  have hm' := hm
  unfold maxLen at hm'
  have HN := Lib.hid hn
  have hn0 : n ≤ l.length := by omega
  clear hn
  go_enter Tryd.func47, Tryd.ntmps47
  go_wp2_with fail
  go_loop [0] (fun v => ∃ m : Nat, m ≤ l.length ∧ v = .slice A m c ∧ Hid (∀ i (h : i < l.length), m ≤ i → l[i] = 0)) (fun v => sliceN' v)
  case atStart => exact ⟨n, hn0, rfl, Lib.hid (fun i h hi => by have := HN.out; omega)⟩
  case round =>
    obtain ⟨m, hml, rfl, HM⟩ := hrel
    rcases Nat.eq_zero_or_pos m with h0 | h0
    · subst h0
      go_wp2_with fail
      go_ret
      exact ⟨⟨0, Nat.zero_le _, rfl, HM.out, .inl rfl⟩, rfl⟩
    · obtain ⟨k, rfl⟩ : ∃ k, m = k + 1 := ⟨m - 1, by omega⟩
      obtain ⟨b, o, rfl, hcl⟩ := hr.at_ (k := k) (by omega)
      have kk := hcl k (by omega)
      clear hcl
      obtain ⟨y, HY⟩ : ∃ y, Hid (y = l[k].toNat) := ⟨_, Lib.hid rfl⟩
      rw [← HY.out] at kk
      by_cases hy : y = 0
      · have g : ((y : Int) == 0) = true := by rw [hy]; rfl
        have HM2 : Hid (∀ i (h : i < l.length), k ≤ i → l[i] = 0) := Lib.hid (by
          intro i h hi
          by_cases e : i = k
          · subst e
            apply UInt8.toNat_inj.1
            have := HY.out
            rw [← this, hy]; rfl
          · exact HM.out i h (by omega))
        clear hy
        go_wp2_with fail
        go_round
        case measure => simp [sliceN']
        case rel => exact ⟨k, by omega, rfl, HM2⟩
      · have g : ((y : Int) == 0) = false := by rw [beq_eq_false_iff_ne]; omega
        have HK : Hid (l[k] ≠ 0) := Lib.hid (fun e => hy (by rw [HY.out, e]; rfl))
        clear hy
        go_wp2_with fail
        go_ret
        exact ⟨⟨k + 1, by omega, rfl, HM.out, .inr ⟨by simp; omega, by simpa using HK.out⟩⟩, rfl⟩

theorem zeroB_cons (x : UInt8) (xs : List UInt8) : zeroB (x :: xs) = (x == 0 && zeroB xs) := by simp [zeroB]

/-- some bytes: none, if these are noughts alone -/
def RetT (w : World) (l : List UInt8) (e : Ending) (w' : World) : Prop := (∃ (A' : Option Addr) (q c' : Nat), e = .returned (.slice A' q c') ∧ ((q : Int) == 0) = zeroB l) ∧ ∃ n, w' = w.drewN n
set_option maxHeartbeats 1000000 in
theorem trimL_any (A : Option Addr) (c : Nat) (l : List UInt8) (n : Nat) (w : World) (hr : Rd w A l) (hn : n = l.length) (hc : l.length ≤ c) (hm : c ≤ maxLen) :
    Calls Tryd.prog 46 #[.slice A n c, .int .u8 0] w (RetT w l) := by
  subst hn
  go_enter Tryd.func46, Tryd.ntmps46
  go_wp2_with fail
  go_loop [0] (fun v => ∃ (A' : Option Addr) (q c' : Nat) (l' : List UInt8), v = .slice A' q c' ∧ Hid (q = l'.length) ∧ Rd w A' l' ∧ q ≤ c' ∧ c' ≤ maxLen ∧ Hid (zeroB l' = zeroB l)) (fun v => sliceN' v)
  case atStart => exact ⟨A, _, c, l, rfl, Lib.hid rfl, hr, hc, hm, Lib.hid rfl⟩
  case round =>
    obtain ⟨A', q, c', l', rfl, HQ, hr', hc', hm', HZ⟩ := hrel
    cases l' with
    | nil =>
      obtain rfl : q = 0 := HQ.out
      have HZ2 : Hid (zeroB l = true) := Lib.hid HZ.out.symm
      go_wp2_with fail
      go_ret
      exact ⟨⟨none, 0, 0, rfl, by rw [HZ2.out]; rfl⟩, 0, rfl⟩
    | cons x xs =>
      obtain ⟨k, rfl⟩ : ∃ k, q = k + 1 := ⟨xs.length, by have := HQ.out; simpa using this⟩
      have HK : Hid (k = xs.length) := Lib.hid (by have := HQ.out; simpa using this)
      have hmm := hm'
      unfold maxLen at hmm
      obtain ⟨b, o, rfl, hcl⟩ := hr'.at_ (k := 0) (by simp)
      have kk := hcl 0 (by simp)
      rw [Nat.add_zero] at kk
      clear hcl
      simp only [List.getElem_cons_zero] at kk
      obtain ⟨y, HY⟩ : ∃ y, Hid (y = x.toNat) := ⟨_, Lib.hid rfl⟩
      rw [← HY.out] at kk
      have hk0 : 0 < k + 1 := by omega
      by_cases hy : y = 0
      · have g : ((y : Int) == 0) = true := by rw [hy]; rfl
        have HZ2 : Hid (zeroB xs = zeroB l) := Lib.hid (by
          have h := HZ.out
          have hx : x = 0 := by apply UInt8.toNat_inj.1; rw [← HY.out, hy]; rfl
          rw [zeroB_cons, hx] at h
          simpa using h)
        clear hy
        by_cases hc1 : c' = 1
        · have HX : Hid (xs = []) := Lib.hid (by have := HK.out; apply List.eq_nil_of_length_eq_zero; omega)
          subst hc1
          obtain rfl : k = 0 := by omega
          go_wp2_with fail
          go_round
          case measure => simp [sliceN']
          case rel => exact ⟨_, 0, _, xs, rfl, HK, by rw [HX.out]; exact Rd.nil _ _, Nat.le_refl _, Nat.zero_le _, HZ2⟩
        · have hrs : Rd w (some ⟨b, o + 1, none⟩) xs := by
            have := hr'.slice_ne 1 xs.length c' (by simp; omega) (by simp; have := HK.out; omega) hc1
            rw [List.take_of_length_le (by simp)] at this
            simpa [Addr.add_lit] using this
          go_wp2_with fail
          go_round
          case measure => simp [sliceN']
          case rel => exact ⟨_, k, _, xs, rfl, HK, hrs, by omega, by unfold maxLen; omega, HZ2⟩
      · have g : ((y : Int) == 0) = false := by rw [beq_eq_false_iff_ne]; omega
        have HZ2 : Hid (zeroB l = false) := Lib.hid (by
          rw [← HZ.out, zeroB_cons]
          have hx : (x == 0) = false := by
            rw [beq_eq_false_iff_ne]
            rintro rfl
            exact hy HY.out
          rw [hx, Bool.false_and])
        clear hy
        go_wp2_with fail
        go_ret
        exact ⟨⟨_, k + 1, c', rfl, by rw [HZ2.out, beq_eq_false_iff_ne]; omega⟩, 0, rfl⟩

theorem zeroB_take {l : List UInt8} {m : Nat} (h : ∀ i (h : i < l.length), m ≤ i → l[i] = 0) : zeroB (l.take m) = zeroB l := by
  rw [Bool.eq_iff_iff, zeroB_iff, zeroB_iff]
  constructor
  · intro h1 i hi
    by_cases hm : i < m
    · have := h1 i (by simp; omega)
      rwa [List.getElem_take] at this
    · exact h i hi (by omega)
  · intro h1 i hi
    rw [List.getElem_take]
    exact h1 i (by simp at hi; omega)

theorem str0 (W : World) : (Instr.index 9 (.string { data := #[0] }) (.int .i64 0)).run Tryd.prog W = .ok (.int .u8 0) W := by kernel_rfl

set_option maxHeartbeats 1000000 in
theorem trim_any (A : Option Addr) (c : Nat) (l : List UInt8) (n : Nat) (w : World) (hr : Rd w A l) (hn : n = l.length) (hc : l.length ≤ c) (hm : c ≤ maxLen) :
    Calls Tryd.prog 34 #[.slice A n c, .string { data := #[0] }] w (RetT w l) := by
  have HN := Lib.hid hn
  by_cases h0 : n = 0
  · have HZ : Hid (zeroB l = true) := Lib.hid (by rw [List.length_eq_zero_iff.1 (by omega : l.length = 0)]; rfl)
    subst h0
    clear hn
    go_enter Tryd.func34, Tryd.ntmps34
    go_wp2_with fail
    go_ret
    exact ⟨⟨none, 0, 0, rfl, by rw [HZ.out]; rfl⟩, 0, rfl⟩
  · have g0 : ((n : Int) == 0) = false := by rw [beq_eq_false_iff_ne]; omega
    have hix := str0
    clear hn h0
    go_enter Tryd.func34, Tryd.ntmps34
    go_wp2_with fail
    go_region_held3 (fun _ => True) (trivial) (first | (go_at_call 47; refine (trimR_any A c l n _ hr.drew HN.out hc hm).mono ?_; rintro e w1 ⟨⟨m, hml, rfl, h1, h2⟩, rfl⟩) | (go_at_call 46; refine (trimL_any A c (l.take m) m _ (hr.drew.take m) (by simp; omega) (by simp; omega) hm).mono ?_; rintro e w2 ⟨⟨A', q, c', rfl, hq⟩, k, rfl⟩))
    all_goals
      go_wp2_with fail
      go_ret
      exact ⟨⟨A', q, c', rfl, by rw [hq, zeroB_take h1]⟩, _, rfl⟩

theorem below_dr (w : World) (n : Nat) : Below w.heap.size w (w.drewN n) := ⟨rfl, rfl, rfl, Nat.le_refl _, fun _ _ => rfl⟩

set_option maxHeartbeats 1000000 in
theorem noughts_any (A : Option Addr) (c : Nat) (l : List UInt8) (n : Nat) (w : World) (hr : Rd w A l) (hn : n = l.length) (hc : l.length ≤ c) (hm : c ≤ maxLen) :
    Calls Tryd.prog 20 #[.slice A n c] w (RetV w (.bool (zeroB l))) := by
  have HN := Lib.hid hn
  clear hn
  obtain ⟨z, HZ⟩ : ∃ z, Hid (z = zeroB l) := ⟨_, Lib.hid rfl⟩
  rw [← HZ.out]
  go_enter Tryd.func20, Tryd.ntmps20
  go_wp2_with fail
  refine (trim_any A c l n _ hr HN.out hc hm).mono ?_
  rintro e w1 ⟨⟨A', q, c', rfl, hq⟩, k, rfl⟩
  rw [← HZ.out] at hq
  have HQ := Lib.hid hq
  clear hq
  go_wp2_with fail
  go_ret
  exact ⟨ret_bool HQ.out, below_dr _ _⟩

set_option maxHeartbeats 1000000 in
theorem blank_any (A : Option Addr) (c : Nat) (l : List UInt8) (w : World) (hr : Rd w A l) (hc : l.length ≤ maxLen) :
    Calls Tryd.prog 26 #[.slice A l.length c] w fun e w' => e = .returned (.bool (zeroB l)) ∧ w = w' := by
  unfold maxLen at hc
  obtain ⟨z, HZ⟩ : ∃ z, Hid (z = zeroB l) := ⟨_, Lib.hid rfl⟩
  rw [← HZ.out]
  go_enter Tryd.func26, Tryd.ntmps26
  go_wp2_with fail
  go_loop [3] (fun i => ∃ k : Nat, k ≤ l.length ∧ i = .int .i64 k ∧ Hid (∀ j (h : j < l.length), j < k → l[j] = 0)) (fun i => l.length - (intOf i).toNat)
  case atStart => exact ⟨0, Nat.zero_le _, rfl, Lib.hid (fun j h hj => by omega)⟩
  case round =>
    obtain ⟨k, hk, rfl, HK⟩ := hrel
    by_cases hlt : k < l.length
    · obtain ⟨b, o, rfl, hcl⟩ := hr.at_ hlt
      have kk := hcl k hlt
      clear hcl
      obtain ⟨y, HY⟩ : ∃ y, Hid (y = l[k].toNat) := ⟨_, Lib.hid rfl⟩
      rw [← HY.out] at kk
      by_cases hy : y = 0
      · have g : ((y : Int) != 0) = false := by rw [hy]; rfl
        have HK2 : Hid (∀ j (h : j < l.length), j < k + 1 → l[j] = 0) := Lib.hid (by
          intro j h hj
          by_cases e : j = k
          · subst e
            apply UInt8.toNat_inj.1
            rw [← HY.out, hy]; rfl
          · exact HK.out j h (by omega))
        clear hy
        go_wp2_with fail
        go_round
        case measure => simp [intOf]; omega
        case rel => exact ⟨k + 1, by omega, by go_num, HK2⟩
      · have g : ((y : Int) != 0) = true := by rw [bne_iff_ne]; omega
        have HF : Hid (z = false) := Lib.hid (by
          rw [HZ.out]
          cases e : zeroB l
          · rfl
          · have := (zeroB_iff l).1 e k hlt
            exact absurd (by rw [HY.out, this]; rfl) hy)
        clear hy
        go_wp2_with fail
        go_ret
        exact ⟨ret_bool HF.out.symm, rfl⟩
    · have HF : Hid (z = true) := Lib.hid (by
        rw [HZ.out, zeroB_iff]
        intro i hi
        exact HK.out i hi (by omega))
      go_wp2_with fail
      go_ret
      exact ⟨ret_bool HF.out.symm, rfl⟩
theorem blank_n (A : Option Addr) (c : Nat) (l : List UInt8) (n : Nat) (w : World) (hr : Rd w A l) (hc : l.length ≤ maxLen) (hn : n = l.length) :
    Calls Tryd.prog 26 #[.slice A n c] w fun e w' => e = .returned (.bool (zeroB l)) ∧ w = w' := by
  subst hn
  exact blank_any A c l w hr hc
end Go.Proofs.YtahfippapknolaaDoor
