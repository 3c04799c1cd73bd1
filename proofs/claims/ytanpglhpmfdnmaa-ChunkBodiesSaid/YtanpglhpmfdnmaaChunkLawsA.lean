/-
  THE WALK OF THE LAW ChunkBodies.
-/
import Derived.Test.YtanpglhpmfdnmaaChunkA
namespace Go.Proofs.Ytanpglhpmfdnmaa
open Go.RowKit
set_option linter.unusedVariables false

set_option maxHeartbeats 2000000 in
theorem chunkBodies_walk (count : Int) (A : Option Addr) (c : Nat) (l : List UInt8) (B : Option Addr) (d : Nat) (m : List UInt8) (w : World) (n0 : -9223372036854775808 ≤ count) (n1 : count ≤ 9223372036854775807)
    (hr : Rd w A l) (hc : l.length ≤ c) (hm : c ≤ maxLen) (hr2 : Rd w B m) (hc2 : m.length ≤ d) (hm2 : d ≤ maxLen) :
    Calls Try.prog 3 #[.int .i64 count, .slice A l.length c, .slice B m.length d] w (RetV w (.bool true)) := by
  by_cases h1 : 200 < l.length
  · have g1 : (200 : Int) < l.length := by omega
    go_enter Try.func3, Try.ntmps3
    go_wp2_with fail
    go_ret
    exact ⟨rfl, Below.refl _ _⟩
  have g1 : decide ((200 : Int) < l.length) = false := decide_eq_false (by omega)
  by_cases h2 : 200 < m.length
  · have g2 : (200 : Int) < m.length := by omega
    go_enter Try.func3, Try.ntmps3
    go_wp2_with fail
    go_ret
    exact ⟨rfl, Below.refl _ _⟩
  have g2 : decide ((200 : Int) < m.length) = false := decide_eq_false (by omega)
  have hmm : m.length ≤ maxLen := by omega
  have hm47 : m.length ≤ 140737488355328 := by omega
  obtain ⟨L, HL⟩ : ∃ L, Hid (L = chL count l) := ⟨_, Lib.hid rfl⟩
  have hLm : L.length ≤ maxLen := by rw [HL.out]; unfold chL maxLen; split <;> simp; omega
  obtain ⟨E, HE⟩ : ∃ L, Hid (L = chE count l) := ⟨_, Lib.hid rfl⟩
  obtain ⟨N, HN⟩ : ∃ L, Hid (L = boN m) := ⟨_, Lib.hid rfl⟩
  obtain ⟨Q, HQ⟩ : ∃ L, Hid (L = boL m) := ⟨_, Lib.hid rfl⟩
  have hQm : Q.length ≤ maxLen := by rw [HQ.out]; unfold boL; split <;> simp; omega
  obtain ⟨F, HF⟩ : ∃ L, Hid (L = boE m) := ⟨_, Lib.hid rfl⟩
  clear h1 h2
  go_enter Try.func3, Try.ntmps3
  go_wp2_with fail
  refine (copy_any B d m _ hr2 hm47).mono ?_
  rintro e w1 ⟨A1, c1, rfl, hown1, hb1⟩
  go_wp2_with fail
  refine (cprint_any count A c l _ (hr.below hb1)).mono ?_
  rw [← HL.out, ← HE.out]
  rintro e w2 ⟨A2, c2, rfl, hown2, hb2⟩
  go_wp2_with fail
  refine (rcprint_any count A c l _ ((hr.below hb1).below hb2)).mono ?_
  rw [← HL.out, ← HE.out]
  rintro e w3 ⟨A3, c3, rfl, hown3, hb3⟩
  go_wp2_with fail
  refine (cparse_any A1 c1 m _ ((hown1.below hb2).below hb3).rd hown1.caps.1 hown1.caps.2).mono ?_
  rw [← HN.out, ← HQ.out, ← HF.out]
  rintro e w4 ⟨A4, c4, rfl, hown4, hb4⟩
  go_wp2_with fail
  refine (rcparse_any B d m _ ((((hr2.below hb1).below hb2).below hb3).below hb4) hc2 hm2).mono ?_
  rw [← HN.out, ← HQ.out, ← HF.out]
  rintro e w5 ⟨A5, c5, rfl, hown5, hb5⟩
  go_wp2_with fail
  refine (same_self A2 A3 c2 c3 L _ _ _ (((hown2.below hb3).below hb4).below hb5).rd ((hown3.below hb4).below hb5).rd hLm rfl rfl).mono ?_
  rintro e w6 ⟨rfl, hb6⟩
  go_wp2_with fail
  refine (same_self A4 A5 c4 c5 Q _ _ _ ((hown4.below hb5).below hb6).rd (hown5.below hb6).rd hQm rfl rfl).mono ?_
  rintro e w7 ⟨rfl, hb7⟩
  have hbx := bt (bt (bt (bt (bt (bt hb1 hb2) hb3) hb4) hb5) hb6) hb7
  have r1 : Rd w7 A1 m := ((((((hown1.below hb2).below hb3).below hb4).below hb5).below hb6).below hb7).rd
  go_wp2_with fail
  refine (same_self A1 B c1 d m _ _ _ r1 (hr2.below hbx) hmm rfl rfl).mono ?_
  rintro e w8 ⟨rfl, hb8⟩
  go_wp2_with fail
  go_ret
  exact ⟨rfl, bt hbx hb8⟩
end Go.Proofs.Ytanpglhpmfdnmaa
