/-
  THE HEAP THAT NOBODY MADE, AND THE LAW ChunkNil.
-/
import Derived.Test.YtanpglhpmfdnmaaRet
namespace Go.Proofs.Ytanpglhpmfdnmaa
open Go.RowKit
set_option linter.unusedVariables false

/-- nobody made this -/
def Nob (w : World) (p : Option Addr) : Prop := p = none ∨ ∃ b, p = some ⟨b, 0, none⟩ ∧ w.cell? ⟨b, 0, none⟩ = some (.int .i64 0)
theorem Nob.bel {w w' : World} {p : Option Addr} (h : Nob w p) (hp : ∀ a, p = some a → a.block < w.heap.size) (hb : Below w.heap.size w w') : Nob w' p := by
  rcases h with h | ⟨b, h, hc⟩
  · exact .inl h
  · exact .inr ⟨b, h, (hb.cell (p := ⟨b, 0, none⟩) (hp _ h)).trans hc⟩

set_option maxHeartbeats 400000 in
theorem hnone_any (p : Option Addr) (w : World) (h : Nob w p) : Calls Try.prog 37 #[.pointer p] w (RetV w (.bool true)) := by
  rcases h with rfl | ⟨b, rfl, hc⟩
  · go_enter Try.func37, Try.ntmps37
    go_wp2_with fail
    go_ret
    exact ⟨rfl, Below.refl _ _⟩
  · go_enter Try.func37, Try.ntmps37
    go_wp2_with fail
    go_ret
    exact ⟨rfl, Below.refl _ _⟩

set_option maxHeartbeats 400000 in
theorem hget_nob (p : Option Addr) (k : Int) (w : World) (h : Nob w p) : Calls Try.prog 16 #[.pointer p, .int .i64 k] w (RetV w (.tuple #[.slice none 0 0, .bool false])) := by
  go_enter Try.func16, Try.ntmps16
  go_wp2_with fail
  refine (hnone_any p _ h).mono ?_
  rintro e w1 ⟨rfl, hb1⟩
  go_wp2_with fail
  go_ret2
  exact ⟨rfl, hb1⟩

set_option maxHeartbeats 400000 in
theorem hput_nob (p : Option Addr) (k : Int) (v : Value) (w : World) (h : Nob w p) : Calls Try.prog 18 #[.pointer p, .int .i64 k, v] w (RetV w (.int .i64 1)) := by
  go_enter Try.func18, Try.ntmps18
  go_wp2_with fail
  refine (hnone_any p _ h).mono ?_
  rintro e w1 ⟨rfl, hb1⟩
  go_wp2_with fail
  go_ret
  exact ⟨rfl, hb1⟩

set_option maxHeartbeats 400000 in
theorem hlose_nob (p : Option Addr) (k : Int) (w : World) (h : Nob w p) : Calls Try.prog 19 #[.pointer p, .int .i64 k] w (RetV w (.int .i64 1)) := by
  go_enter Try.func19, Try.ntmps19
  go_wp2_with fail
  refine (hnone_any p _ h).mono ?_
  rintro e w1 ⟨rfl, hb1⟩
  go_wp2_with fail
  go_ret
  exact ⟨rfl, hb1⟩

set_option maxHeartbeats 400000 in
theorem hmiss_nob (p : Option Addr) (w : World) (h : Nob w p) : Calls Try.prog 20 #[.pointer p] w (RetV w (.slice none 0 0)) := by
  go_enter Try.func20, Try.ntmps20
  go_wp2_with fail
  refine (hnone_any p _ h).mono ?_
  rintro e w1 ⟨rfl, hb1⟩
  go_wp2_with fail
  go_ret
  exact ⟨rfl, hb1⟩

set_option maxHeartbeats 400000 in
theorem hwhole_nob (p : Option Addr) (w : World) (h : Nob w p) : Calls Try.prog 17 #[.pointer p] w (RetV w (.tuple #[.slice none 0 0, .int .i64 1])) := by
  go_enter Try.func17, Try.ntmps17
  go_wp2_with fail
  refine (hnone_any p _ h).mono ?_
  rintro e w1 ⟨rfl, hb1⟩
  go_wp2_with fail
  go_ret2
  exact ⟨rfl, hb1⟩

def nobP (g m : Nat) : Option Addr := if m = 0 then none else some ⟨g, 0, none⟩
/-- the two: none, and one that nobody made -/
def Two (w : World) (g : Nat) : Prop := Blk w g 38 #[.int .i64 0, .map none] ∧ Blk w (g + 1) 35 #[.pointer none, .pointer (some ⟨g, 0, none⟩)]
theorem Two.bel {w w' : World} {g : Nat} (h : Two w g) (hb : Below w.heap.size w w') : Two w' g := ⟨h.1.bel hb, h.2.bel hb⟩
theorem Two.cell {w : World} {g : Nat} (h : Two w g) (m : Nat) (hm : m < 2) : w.cell? ⟨g + 1, m, none⟩ = some (.pointer (nobP g m)) := by
  obtain rfl | rfl : m = 0 ∨ m = 1 := by omega
  · exact h.2.c 0 _ rfl
  · exact h.2.c 1 _ rfl
theorem Two.nob {w : World} {g : Nat} (h : Two w g) (m : Nat) : Nob w (nobP g m) := by
  unfold nobP
  split
  · exact .inl rfl
  · exact .inr ⟨g, rfl, h.1.c 0 _ rfl⟩

set_option maxHeartbeats 1000000 in
theorem chunkNil_walk (k : Int) (A : Option Addr) (c : Nat) (l : List UInt8) (w : World) (n0 : -9223372036854775808 ≤ k) (n1 : k ≤ 9223372036854775807)
    (hr : Rd w A l) (hc : l.length ≤ c) (hm : c ≤ maxLen) :
    Calls Try.prog 4 #[.int .i64 k, .slice A l.length c] w (RetV w (.bool true)) := by
  clear n0 n1
  by_cases h1 : 200 < l.length
  · have g1 : (200 : Int) < l.length := by omega
    go_enter Try.func4, Try.ntmps4
    go_wp2_with fail
    go_ret
    exact ⟨rfl, Below.refl _ _⟩
  have g1 : decide ((200 : Int) < l.length) = false := decide_eq_false (by omega)
  clear h1
  go_enter Try.func4, Try.ntmps4
  go_wp2_with fail
  have T0 : Two ((w.alloc (.cells #[.int .i64 0, .map none] 38)).alloc (.cells #[.pointer none, .pointer (some ⟨w.heap.size, 0, none⟩)] 35)) w.heap.size :=
    ⟨(Blk.new w 38 _).alloc _, Blk.new' _ _ (by simp)⟩
  go_loopw [7] (fun i wr => ∃ m : Nat, m ≤ 2 ∧ i = .int .i64 m ∧ Two wr w.heap.size ∧ Below w.heap.size w wr) (fun i _ => (2 - intOf i).toNat)
  case atStart => exact ⟨0, by omega, rfl, T0, bal (bal0 _ _) _⟩
  case round =>
    obtain ⟨m, hm2, rfl, T, hbr⟩ := hrel
    clear T0
    by_cases hk : m < 2
    · have n1 := T.cell m hk
      obtain ⟨P, HP⟩ : ∃ P, Hid (P = nobP w.heap.size m) := ⟨_, Lib.hid rfl⟩
      rw [← HP.out] at n1
      go_wp2_with fail
      refine (hget_nob P k _ (by rw [HP.out]; exact T.nob m)).mono ?_
      rintro e w1 ⟨rfl, hb1⟩
      have T1 := T.bel hb1
      have B1 := bt hbr hb1
      have n1 := T1.cell m hk
      rw [← HP.out] at n1
      clear hb1 T hbr
      go_wp2_with fail
      refine (hwhole_nob P _ (by rw [HP.out]; exact T1.nob m)).mono ?_
      rintro e w2 ⟨rfl, hb2⟩
      have T2 := T1.bel hb2
      have B2 := bt B1 hb2
      have n1 := T2.cell m hk
      rw [← HP.out] at n1
      clear hb2 T1 B1
      go_wp2_with fail
      refine (hput_nob P k _ _ (by rw [HP.out]; exact T2.nob m)).mono ?_
      rintro e w3 ⟨rfl, hb3⟩
      have T3 := T2.bel hb3
      have B3 := bt B2 hb3
      have n1 := T3.cell m hk
      rw [← HP.out] at n1
      clear hb3 T2 B2
      go_wp2_with fail
      refine (hlose_nob P k _ (by rw [HP.out]; exact T3.nob m)).mono ?_
      rintro e w4 ⟨rfl, hb4⟩
      have T4 := T3.bel hb4
      have B4 := bt B3 hb4
      have n1 := T4.cell m hk
      rw [← HP.out] at n1
      clear hb4 T3 B3
      go_wp2_with fail
      refine (hmiss_nob P _ (by rw [HP.out]; exact T4.nob m)).mono ?_
      rintro e w5 ⟨rfl, hb5⟩
      have T5 := T4.bel hb5
      have B5 := bt B4 hb5
      clear hb5 T4 B4
      go_wp2_with fail
      go_roundw
      case measure => simp [intOf]; omega
      case rel => exact ⟨m + 1, by omega, by simp, T5, B5⟩
    · have hk' : m = 2 := by omega
      subst hk'
      go_wp2_with fail
      go_ret
      exact ⟨rfl, hbr⟩
end Go.Proofs.Ytanpglhpmfdnmaa
