/-
  DERIVED. GIVEN WITH THE SEED: THE CARDS: each row of YtiieakndjheknaaDoorRows.lean that lists a variable, with what it lists TIED to the program's text (the seventh form; the later family's looks); each row that meets fmt, with fmt's text TOLD by the authors' own Lean function (tested against real Go, not proved from fmt's source: count such statements apart). THE CARD IS WHAT COUNTS. Prove the row's statement (the work); the ties are given (YtiieakndjheknaaDoorTie.lean); close each card by the builder's one call (the guide's Derived/Test/ToyasCard.lean, 'card_holds'). Laid BY PROGRAM, IN A SANDBOX (cutbox-door.mjs). By AI agents, Wed Nov 11 2026. No macro, syntax, notation, axiom, sorry.
-/
import Derived.Test.YtiieakndjheknaaDoorRows
import GoSem.ClaimSeven
namespace Go.Proofs.YtiieakndjheknaaDoor
namespace Rows

/-- THE TIED CARD OF 'sextonlaw28.NetNil'. -/
def netNilCard : Claim7 := { stood := { row := netNilRow, standIns := [], harness := (true, "265d508841ca041f7c91a386d37623f89dcc87f03df50dee3111aa5e457aa5b6"), looks := false }, kinds := [], alts := [], laidByText := true, laidKinds := [.data], laidTests := true, laidLooks := .later }
def NetNilCardSaid : Prop := Claim7.holds Tryd.pinned (.plain (OpenSpec.ofChange netNilSpec)) netNilCard

/-- THE TIED CARD OF 'sextonlaw28.NetPlays'. -/
def netPlaysCard : Claim7 := { stood := { row := netPlaysRow, standIns := [], harness := (true, "265d508841ca041f7c91a386d37623f89dcc87f03df50dee3111aa5e457aa5b6"), looks := false }, kinds := [], alts := [], laidByText := true, laidKinds := [.data], laidTests := true, laidLooks := .later }
def NetPlaysCardSaid : Prop := Claim7.holds Tryd.pinned (.plain (OpenSpec.ofChange netPlaysSpec)) netPlaysCard

/-- THE TIED CARD OF 'sextonlaw28.NetOnce'. -/
def netOnceCard : Claim7 := { stood := { row := netOnceRow, standIns := [], harness := (true, "265d508841ca041f7c91a386d37623f89dcc87f03df50dee3111aa5e457aa5b6"), looks := false }, kinds := [], alts := [], laidByText := true, laidKinds := [.data], laidTests := true, laidLooks := .later }
def NetOnceCardSaid : Prop := Claim7.holds Tryd.pinned (.plain (OpenSpec.ofChange netOnceSpec)) netOnceCard

/-- THE TIED CARD OF 'sextonlaw28.NetCut'. -/
def netCutCard : Claim7 := { stood := { row := netCutRow, standIns := [], harness := (true, "265d508841ca041f7c91a386d37623f89dcc87f03df50dee3111aa5e457aa5b6"), looks := false }, kinds := [], alts := [], laidByText := true, laidKinds := [.data], laidTests := true, laidLooks := .later }
def NetCutCardSaid : Prop := Claim7.holds Tryd.pinned (.plain (OpenSpec.ofChange netCutSpec)) netCutCard

/-- THE TIED CARD OF 'sextonlaw28.NetFull'. -/
def netFullCard : Claim7 := { stood := { row := netFullRow, standIns := [], harness := (true, "265d508841ca041f7c91a386d37623f89dcc87f03df50dee3111aa5e457aa5b6"), looks := false }, kinds := [], alts := [], laidByText := true, laidKinds := [.data], laidTests := true, laidLooks := .later }
def NetFullCardSaid : Prop := Claim7.holds Tryd.pinned (.plain (OpenSpec.ofChange netFullSpec)) netFullCard

/-- THE SECOND FORM's CARD OF 'sextonlaw28.NetNil'. -/
def netNilUptoCard : Claim7 := { stood := { row := netNilUptoRow, standIns := [], harness := (true, "265d508841ca041f7c91a386d37623f89dcc87f03df50dee3111aa5e457aa5b6"), looks := false }, kinds := [], alts := [], laidByText := true, laidKinds := [.data], laidTests := true, laidLooks := .later }
def NetNilUptoCardSaid : Prop := Claim7.holds Tryd.pinned (.plain (OpenSpec.upto netNilSpec)) netNilUptoCard

/-- THE SECOND FORM's CARD OF 'sextonlaw28.NetPlays'. -/
def netPlaysUptoCard : Claim7 := { stood := { row := netPlaysUptoRow, standIns := [], harness := (true, "265d508841ca041f7c91a386d37623f89dcc87f03df50dee3111aa5e457aa5b6"), looks := false }, kinds := [], alts := [], laidByText := true, laidKinds := [.data], laidTests := true, laidLooks := .later }
def NetPlaysUptoCardSaid : Prop := Claim7.holds Tryd.pinned (.plain (OpenSpec.upto netPlaysSpec)) netPlaysUptoCard

/-- THE SECOND FORM's CARD OF 'sextonlaw28.NetOnce'. -/
def netOnceUptoCard : Claim7 := { stood := { row := netOnceUptoRow, standIns := [], harness := (true, "265d508841ca041f7c91a386d37623f89dcc87f03df50dee3111aa5e457aa5b6"), looks := false }, kinds := [], alts := [], laidByText := true, laidKinds := [.data], laidTests := true, laidLooks := .later }
def NetOnceUptoCardSaid : Prop := Claim7.holds Tryd.pinned (.plain (OpenSpec.upto netOnceSpec)) netOnceUptoCard

/-- THE SECOND FORM's CARD OF 'sextonlaw28.NetCut'. -/
def netCutUptoCard : Claim7 := { stood := { row := netCutUptoRow, standIns := [], harness := (true, "265d508841ca041f7c91a386d37623f89dcc87f03df50dee3111aa5e457aa5b6"), looks := false }, kinds := [], alts := [], laidByText := true, laidKinds := [.data], laidTests := true, laidLooks := .later }
def NetCutUptoCardSaid : Prop := Claim7.holds Tryd.pinned (.plain (OpenSpec.upto netCutSpec)) netCutUptoCard

/-- THE SECOND FORM's CARD OF 'sextonlaw28.NetFull'. -/
def netFullUptoCard : Claim7 := { stood := { row := netFullUptoRow, standIns := [], harness := (true, "265d508841ca041f7c91a386d37623f89dcc87f03df50dee3111aa5e457aa5b6"), looks := false }, kinds := [], alts := [], laidByText := true, laidKinds := [.data], laidTests := true, laidLooks := .later }
def NetFullUptoCardSaid : Prop := Claim7.holds Tryd.pinned (.plain (OpenSpec.upto netFullSpec)) netFullUptoCard
end Rows
end Go.Proofs.YtiieakndjheknaaDoor
