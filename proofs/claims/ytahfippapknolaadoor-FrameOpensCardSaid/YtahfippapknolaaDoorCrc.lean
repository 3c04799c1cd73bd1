/-
  THE WALKS OF CRC AND ITS REFERENCE.
-/
import Derived.Test.YtahfippapknolaaDoorSC
import Derived.Test.YtahfippapknolaaDoorBits
import Derived.Test.YtahfippapknolaaDoorCrcPlain
namespace Go.Proofs.YtahfippapknolaaDoor
open Go.RowKit
set_option linter.unusedVariables false

theorem cin_any (r b : Nat) (w : World) (hr : r < 4294967296) (hb : b < 2) :
    Calls Tryd.prog 63 #[.int .u32 r, .int .u32 b] w fun e w' => e = .returned (.int .u32 (stp (r ^^^ b) : Nat)) ∧ w = w' := by
  have hm : (r ^^^ b) % 2 = (r + b) % 2 := by rw [xor_mod2]; omega
  have hd : (r ^^^ b) / 2 = r / 2 := by rw [xor_div2, show b / 2 = 0 by omega, Nat.xor_zero]
  by_cases hx : r % 2 = b
  · have e : stp (r ^^^ b) = r / 2 := by unfold stp; rw [if_neg (by omega), hd]
    have E := Lib.hid e
    clear e hm hd
    go_enter Tryd.func63, Tryd.ntmps63
    go_wp2_with fail
    go_ret
    exact ⟨ret_int (by rw [E.out]; rfl), rfl⟩
  · have e : stp (r ^^^ b) = (r / 2) ^^^ 2197175160 := by unfold stp; rw [if_pos (by omega), hd]
    have E := Lib.hid e
    clear e hm hd
    go_enter Tryd.func63, Tryd.ntmps63
    go_wp2_with fail
    go_ret
    refine ⟨ret_int ?_, rfl⟩
    rw [E.out, ← u32_xor _ _ (by omega) (by omega)]
    rfl

/-- the table of half bytes -/
def tab : List Value := (List.range 16).map fun j => Value.int .u32 (stn 4 j : Nat)
theorem tab_eq : tab = [.int .u32 0, .int .u32 274646895, .int .u32 549293790, .int .u32 820201905, .int .u32 1098587580, .int .u32 1361435347, .int .u32 1640403810, .int .u32 1905808397, .int .u32 2197175160, .int .u32 2460548119, .int .u32 2722870694, .int .u32 2987750089, .int .u32 3280807620, .int .u32 3553878443, .int .u32 3811616794, .int .u32 4084100981] := by
  have h : (List.range 16).map (stn 4) = [0, 274646895, 549293790, 820201905, 1098587580, 1361435347, 1640403810, 1905808397, 2197175160, 2460548119, 2722870694, 2987750089, 3280807620, 3553878443, 3811616794, 4084100981] := by decide +kernel
  have h2 : tab = ((List.range 16).map (stn 4)).map fun (j : Nat) => Value.int .u32 (j : Int) := by rw [tab, List.map_map]; rfl
  rw [h2, h]
  rfl
theorem tab_eq' : tab.toArray = #[.int .u32 0, .int .u32 274646895, .int .u32 549293790, .int .u32 820201905, .int .u32 1098587580, .int .u32 1361435347, .int .u32 1640403810, .int .u32 1905808397, .int .u32 2197175160, .int .u32 2460548119, .int .u32 2722870694, .int .u32 2987750089, .int .u32 3280807620, .int .u32 3553878443, .int .u32 3811616794, .int .u32 4084100981] := by rw [tab_eq]
theorem halves_any (w : World) :
    Calls Tryd.prog 53 #[] w fun e w' => e = .returned (.agg tab.toArray) ∧ Below w.heap.size w w' := by
  go_enter Tryd.func53, Tryd.ntmps53
  go_wp2_with fail
  refine bodyPost_ret (v := .agg tab.toArray) ?_ rfl ⟨rfl, ?_⟩
  · rw [tab_eq]
    simp [results, Tryd.results53, go_sem]
  · exact (Below.refl _ _).alloc (Nat.le_refl _) _
end Go.Proofs.YtahfippapknolaaDoor
