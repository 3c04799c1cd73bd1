/-
  THE WALK OF sextonlaw28's awake.
-/
import Derived.Test.YtiieakndjheknaaDoorNtG
namespace Go.Proofs.YtiieakndjheknaaDoor
set_option maxRecDepth 100000
open Go.RowKit
set_option linter.unusedVariables false
set_option linter.unusedSimpArgs false
theorem NetZ.new {w0 w : World} {g : Nat} {n : Int} (H : Hp w0 w [netI g n none 0 0 cut0]) : NetZ w0 w g n cut0 [] [] [] := ⟨none, 0, [], rfl, Held.nil _, by decide, by decide, (H.nilRow 34 27).rot2⟩
theorem NetZ.W {w0 w : World} {g : Nat} {n : Int} {cut : List Bool} {cs : List MX} {B : Item} {F Z : List Item} (h : NetZ w0 w g n cut cs (B :: F) Z) : HpW w0 [B] w := by
  obtain ⟨A, c, fl, h1, h2, h3, h4, H⟩ := h
  exact ⟨netI g n A fl.length c cut :: mwI A c fl :: (F ++ Z), H.perm (List.Perm.cons _ (List.Perm.cons _ (List.perm_append_comm (l₁ := [B]) (l₂ := F ++ Z))))⟩
theorem NetZ.R {w0 w : World} {g : Nat} {n : Int} {cut : List Bool} {cs fl : List MX} {x : MX} {F Z : List Item} (h : NetZ w0 w g n cut cs F Z) (hh : Held Z fl) (hx : x ∈ fl) : MgR w x.m x.rs x.l := by
  obtain ⟨A, c, fl, h1, h2, h3, h4, H⟩ := h
  exact hh.R hx H (sub_F F Z)
theorem ncut_v {w0 w : World} {g : Nat} {n a b r : Int} {cut cut' : List Bool} {cs cs' : List MX} {F Z : List Item} (HN : NetZ w0 w g n cut cs F Z) (hn : crowdB n = true) (h1 : ncutC n cut a b = cut') (h2 : ncutL n cut cs a b = cs') (h3 : ncutR n a b = r) :
    Calls Tryd.prog 14 #[.pointer (some ⟨g, 0, none⟩), .int .i64 a, .int .i64 b] w (RetN w0 g n cut' cs' F Z (.int .i64 r)) := by
  subst h1 h2 h3
  exact ncut_o HN hn a b
theorem cf_ncut (args : Array Value) (w : World) : (callFunc 14 args).run Tryd.prog w = .ok (.enter 14 args) w := by kernel_rfl
theorem cf_nsend (args : Array Value) (w : World) : (callFunc 11 args).run Tryd.prog w = .ok (.enter 11 args) w := by kernel_rfl
/-! the chapter's numbers -/
abbrev e1 : MX := ftX 0 1 1
abbrev e2 : MX := ftX 1 2 2
abbrev e3 : MX := ftX 2 0 3
abbrev e4 : MX := ftX 1 0 4
def cutA : List Bool := cut0.set 1 true
theorem c31 : ncutC 3 cut0 1 0 = cutA := by decide
theorem c32 : ncutL 3 cut0 [e1, e3] 1 0 = [e3] := rfl
theorem c33 : ncutR 3 1 0 = 0 := by decide
theorem c3 : crowdB 3 = true := by decide
end Go.Proofs.YtiieakndjheknaaDoor
