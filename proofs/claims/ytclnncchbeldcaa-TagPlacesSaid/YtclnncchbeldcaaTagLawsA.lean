/-
  THE WALK OF THE LAW TagPlaces.
-/
import Derived.Test.YtclnncchbeldcaaTagC
namespace Go.Proofs.Ytclnncchbeldcaa
open Go.RowKit
set_option linter.unusedVariables false

set_option maxHeartbeats 4000000 in
theorem tagPlaces_walk (region place sector : Int) (w : World) (hr1 : -9223372036854775808 ≤ region) (hr2 : region ≤ 9223372036854775807) (hp1 : -9223372036854775808 ≤ place) (hp2 : place ≤ 9223372036854775807) (hs1 : -9223372036854775808 ≤ sector) (hs2 : sector ≤ 9223372036854775807) : Calls Try.prog 3 #[.int .i64 region, .int .i64 place, .int .i64 sector] w (RetV w (.bool true)) := by
  obtain ⟨r, HR⟩ : ∃ r, Hid (r = whr sector) := ⟨_, Lib.hid rfl⟩
  obtain ⟨p, HP⟩ : ∃ p, Hid (p = whp sector) := ⟨_, Lib.hid rfl⟩
  obtain ⟨k, HK⟩ : ∃ k, Hid (k = whk sector) := ⟨_, Lib.hid rfl⟩
  obtain ⟨o, HO⟩ : ∃ o, Hid (o = who sector) := ⟨_, Lib.hid rfl⟩
  go_enter Try.func3, Try.ntmps3
  go_wp2_with fail
  refine (where_all _ _ hs1 hs2).mono ?_
  unfold RetW
  rw [← HR.out, ← HP.out, ← HK.out, ← HO.out]
  rintro e w1 ⟨rfl, b1⟩
  go_wp2_with fail
  refine (rwhere_any _ _).mono ?_
  rw [← HR.out, ← HP.out, ← HK.out, ← HO.out]
  rintro e w2 ⟨rfl, rfl⟩
  go_wp2_with fail
  refine (places_any _ _).mono ?_
  rintro e w2 ⟨rfl, b2⟩
  go_wp2_with fail
  refine (rplaces_any _ _).mono ?_
  rintro e w3 ⟨rfl, rfl⟩
  go_wp2_with fail
  refine (wide_any _ _).mono ?_
  rintro e w3 ⟨rfl, b3⟩
  go_wp2_with fail
  refine (rwide_any _ _).mono ?_
  rintro e w4 ⟨rfl, rfl⟩
  go_wp2_with fail
  refine (first_any _ _ _).mono ?_
  rintro e w4 ⟨rfl, b4⟩
  go_wp2_with fail
  refine (rfirst_any _ _ _).mono ?_
  rintro e w5 ⟨rfl, rfl⟩
  go_wp2_with fail
  refine (all_any _).mono ?_
  rintro e w5 ⟨rfl, b5⟩
  go_wp2_with fail
  go_ret
  exact ⟨rfl, bt (bt (bt (bt b1 b2) b3) b4) b5⟩
end Go.Proofs.Ytclnncchbeldcaa
