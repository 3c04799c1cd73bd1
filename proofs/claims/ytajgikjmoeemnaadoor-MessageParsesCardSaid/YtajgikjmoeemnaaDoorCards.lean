/-
  DERIVED. GIVEN WITH THE SEED: THE CARDS: each row of YtajgikjmoeemnaaDoorRows.lean that lists a variable, with what it lists TIED to the program's text (the seventh form; the later family's looks); each row that meets fmt, with fmt's text TOLD by the authors' own Lean function (tested against real Go, not proved from fmt's source: count such statements apart). THE CARD IS WHAT COUNTS. Prove the row's statement (the work); the ties are given (YtajgikjmoeemnaaDoorTie.lean); close each card by the builder's one call (the guide's Derived/Test/ToyasCard.lean, 'card_holds'). Laid BY PROGRAM, IN A SANDBOX (cutbox-door.mjs). By AI agents, Wed Nov 11 2026. No macro, syntax, notation, axiom, sorry.
-/
import Derived.Test.YtajgikjmoeemnaaDoorRows
import GoSem.ClaimSeven
namespace Go.Proofs.YtajgikjmoeemnaaDoor
namespace Rows

/-- THE TIED CARD OF 'sextonlaw20.MessagePrints'. -/
def messagePrintsCard : Claim7 := { stood := { row := messagePrintsRow, standIns := [], harness := (true, "8b73af97b58376b892c38117befcc0010a15e815206cd7c679f0793d1fed6bd3"), looks := false }, kinds := [], alts := [], laidByText := true, laidKinds := [.data], laidTests := true, laidLooks := .later }
def MessagePrintsCardSaid : Prop := Claim7.holds Tryd.pinned (.plain (OpenSpec.ofChange messagePrintsSpec)) messagePrintsCard

/-- THE TIED CARD OF 'sextonlaw20.MessageParses'. -/
def messageParsesCard : Claim7 := { stood := { row := messageParsesRow, standIns := [], harness := (true, "8b73af97b58376b892c38117befcc0010a15e815206cd7c679f0793d1fed6bd3"), looks := false }, kinds := [], alts := [], laidByText := true, laidKinds := [.data], laidTests := true, laidLooks := .later }
def MessageParsesCardSaid : Prop := Claim7.holds Tryd.pinned (.plain (OpenSpec.ofChange messageParsesSpec)) messageParsesCard

/-- THE TIED CARD OF 'sextonlaw20.MessageBack'. -/
def messageBackCard : Claim7 := { stood := { row := messageBackRow, standIns := [], harness := (true, "8b73af97b58376b892c38117befcc0010a15e815206cd7c679f0793d1fed6bd3"), looks := false }, kinds := [], alts := [], laidByText := true, laidKinds := [.data], laidTests := true, laidLooks := .later }
def MessageBackCardSaid : Prop := Claim7.holds Tryd.pinned (.plain (OpenSpec.ofChange messageBackSpec)) messageBackCard

/-- THE TIED CARD OF 'sextonlaw20.MessageTorn'. -/
def messageTornCard : Claim7 := { stood := { row := messageTornRow, standIns := [], harness := (true, "8b73af97b58376b892c38117befcc0010a15e815206cd7c679f0793d1fed6bd3"), looks := false }, kinds := [], alts := [], laidByText := true, laidKinds := [.data], laidTests := true, laidLooks := .later }
def MessageTornCardSaid : Prop := Claim7.holds Tryd.pinned (.plain (OpenSpec.ofChange messageTornSpec)) messageTornCard

/-- THE TIED CARD OF 'sextonlaw20.MessageFields'. -/
def messageFieldsCard : Claim7 := { stood := { row := messageFieldsRow, standIns := [], harness := (true, "8b73af97b58376b892c38117befcc0010a15e815206cd7c679f0793d1fed6bd3"), looks := false }, kinds := [], alts := [], laidByText := true, laidKinds := [.data], laidTests := true, laidLooks := .later }
def MessageFieldsCardSaid : Prop := Claim7.holds Tryd.pinned (.plain (OpenSpec.ofChange messageFieldsSpec)) messageFieldsCard

/-- THE TIED CARD OF 'sextonlaw20.MessageMore'. -/
def messageMoreCard : Claim7 := { stood := { row := messageMoreRow, standIns := [], harness := (true, "8b73af97b58376b892c38117befcc0010a15e815206cd7c679f0793d1fed6bd3"), looks := false }, kinds := [], alts := [], laidByText := true, laidKinds := [.data], laidTests := true, laidLooks := .later }
def MessageMoreCardSaid : Prop := Claim7.holds Tryd.pinned (.plain (OpenSpec.ofChange messageMoreSpec)) messageMoreCard

/-- THE SECOND FORM's CARD OF 'sextonlaw20.MessagePrints'. -/
def messagePrintsUptoCard : Claim7 := { stood := { row := messagePrintsUptoRow, standIns := [], harness := (true, "8b73af97b58376b892c38117befcc0010a15e815206cd7c679f0793d1fed6bd3"), looks := false }, kinds := [], alts := [], laidByText := true, laidKinds := [.data], laidTests := true, laidLooks := .later }
def MessagePrintsUptoCardSaid : Prop := Claim7.holds Tryd.pinned (.plain (OpenSpec.upto messagePrintsSpec)) messagePrintsUptoCard

/-- THE SECOND FORM's CARD OF 'sextonlaw20.MessageParses'. -/
def messageParsesUptoCard : Claim7 := { stood := { row := messageParsesUptoRow, standIns := [], harness := (true, "8b73af97b58376b892c38117befcc0010a15e815206cd7c679f0793d1fed6bd3"), looks := false }, kinds := [], alts := [], laidByText := true, laidKinds := [.data], laidTests := true, laidLooks := .later }
def MessageParsesUptoCardSaid : Prop := Claim7.holds Tryd.pinned (.plain (OpenSpec.upto messageParsesSpec)) messageParsesUptoCard

/-- THE SECOND FORM's CARD OF 'sextonlaw20.MessageBack'. -/
def messageBackUptoCard : Claim7 := { stood := { row := messageBackUptoRow, standIns := [], harness := (true, "8b73af97b58376b892c38117befcc0010a15e815206cd7c679f0793d1fed6bd3"), looks := false }, kinds := [], alts := [], laidByText := true, laidKinds := [.data], laidTests := true, laidLooks := .later }
def MessageBackUptoCardSaid : Prop := Claim7.holds Tryd.pinned (.plain (OpenSpec.upto messageBackSpec)) messageBackUptoCard

/-- THE SECOND FORM's CARD OF 'sextonlaw20.MessageTorn'. -/
def messageTornUptoCard : Claim7 := { stood := { row := messageTornUptoRow, standIns := [], harness := (true, "8b73af97b58376b892c38117befcc0010a15e815206cd7c679f0793d1fed6bd3"), looks := false }, kinds := [], alts := [], laidByText := true, laidKinds := [.data], laidTests := true, laidLooks := .later }
def MessageTornUptoCardSaid : Prop := Claim7.holds Tryd.pinned (.plain (OpenSpec.upto messageTornSpec)) messageTornUptoCard

/-- THE SECOND FORM's CARD OF 'sextonlaw20.MessageFields'. -/
def messageFieldsUptoCard : Claim7 := { stood := { row := messageFieldsUptoRow, standIns := [], harness := (true, "8b73af97b58376b892c38117befcc0010a15e815206cd7c679f0793d1fed6bd3"), looks := false }, kinds := [], alts := [], laidByText := true, laidKinds := [.data], laidTests := true, laidLooks := .later }
def MessageFieldsUptoCardSaid : Prop := Claim7.holds Tryd.pinned (.plain (OpenSpec.upto messageFieldsSpec)) messageFieldsUptoCard

/-- THE SECOND FORM's CARD OF 'sextonlaw20.MessageMore'. -/
def messageMoreUptoCard : Claim7 := { stood := { row := messageMoreUptoRow, standIns := [], harness := (true, "8b73af97b58376b892c38117befcc0010a15e815206cd7c679f0793d1fed6bd3"), looks := false }, kinds := [], alts := [], laidByText := true, laidKinds := [.data], laidTests := true, laidLooks := .later }
def MessageMoreUptoCardSaid : Prop := Claim7.holds Tryd.pinned (.plain (OpenSpec.upto messageMoreSpec)) messageMoreUptoCard
end Rows
end Go.Proofs.YtajgikjmoeemnaaDoor
