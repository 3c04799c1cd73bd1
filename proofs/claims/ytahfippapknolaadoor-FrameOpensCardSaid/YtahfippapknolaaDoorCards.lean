/-
  DERIVED. GIVEN WITH THE SEED: THE CARDS: each row of YtahfippapknolaaDoorRows.lean that lists a variable, with what it lists TIED to the program's text (the seventh form; the later family's looks); each row that meets fmt, with fmt's text TOLD by the authors' own Lean function (tested against real Go, not proved from fmt's source: count such statements apart). THE CARD IS WHAT COUNTS. Prove the row's statement (the work); the ties are given (YtahfippapknolaaDoorTie.lean); close each card by the builder's one call (the guide's Derived/Test/ToyasCard.lean, 'card_holds'). Laid BY PROGRAM, IN A SANDBOX (cutbox-door.mjs). By AI agents, Wed Nov 11 2026. No macro, syntax, notation, axiom, sorry.
-/
import Derived.Test.YtahfippapknolaaDoorRows
import GoSem.ClaimSeven
namespace Go.Proofs.YtahfippapknolaaDoor
namespace Rows

/-- THE TIED CARD OF 'sextonlaw04.FrameOpens'. -/
def frameOpensCard : Claim7 := { stood := { row := frameOpensRow, standIns := [], harness := (true, "22b3aa5b6d5479b3190d6ca53512dd46c3755809d2c73df5d22075ab9de85702"), looks := false }, kinds := [], alts := [], laidByText := true, laidKinds := [.data, .pinned], laidTests := true, laidLooks := .later }
def FrameOpensCardSaid : Prop := Claim7.holds Tryd.pinned (.plain (OpenSpec.ofChange frameOpensSpec)) frameOpensCard

/-- THE TIED CARD OF 'sextonlaw04.FrameBack'. -/
def frameBackCard : Claim7 := { stood := { row := frameBackRow, standIns := [], harness := (true, "22b3aa5b6d5479b3190d6ca53512dd46c3755809d2c73df5d22075ab9de85702"), looks := false }, kinds := [], alts := [], laidByText := true, laidKinds := [.data, .pinned], laidTests := true, laidLooks := .later }
def FrameBackCardSaid : Prop := Claim7.holds Tryd.pinned (.plain (OpenSpec.ofChange frameBackSpec)) frameBackCard

/-- THE TIED CARD OF 'sextonlaw04.FrameSpoilt'. -/
def frameSpoiltCard : Claim7 := { stood := { row := frameSpoiltRow, standIns := [], harness := (true, "22b3aa5b6d5479b3190d6ca53512dd46c3755809d2c73df5d22075ab9de85702"), looks := false }, kinds := [], alts := [], laidByText := true, laidKinds := [.data, .pinned], laidTests := true, laidLooks := .later }
def FrameSpoiltCardSaid : Prop := Claim7.holds Tryd.pinned (.plain (OpenSpec.ofChange frameSpoiltSpec)) frameSpoiltCard

/-- THE TIED CARD OF 'sextonlaw04.FrameNear'. -/
def frameNearCard : Claim7 := { stood := { row := frameNearRow, standIns := [], harness := (true, "22b3aa5b6d5479b3190d6ca53512dd46c3755809d2c73df5d22075ab9de85702"), looks := false }, kinds := [], alts := [], laidByText := true, laidKinds := [.data, .pinned], laidTests := true, laidLooks := .later }
def FrameNearCardSaid : Prop := Claim7.holds Tryd.pinned (.plain (OpenSpec.ofChange frameNearSpec)) frameNearCard

/-- THE TIED CARD OF 'sextonlaw04.FrameCut'. -/
def frameCutCard : Claim7 := { stood := { row := frameCutRow, standIns := [], harness := (true, "22b3aa5b6d5479b3190d6ca53512dd46c3755809d2c73df5d22075ab9de85702"), looks := false }, kinds := [], alts := [], laidByText := true, laidKinds := [.data, .pinned], laidTests := true, laidLooks := .later }
def FrameCutCardSaid : Prop := Claim7.holds Tryd.pinned (.plain (OpenSpec.ofChange frameCutSpec)) frameCutCard

/-- THE TIED CARD OF 'sextonlaw04.FrameElsewhere'. -/
def frameElsewhereCard : Claim7 := { stood := { row := frameElsewhereRow, standIns := [], harness := (true, "22b3aa5b6d5479b3190d6ca53512dd46c3755809d2c73df5d22075ab9de85702"), looks := false }, kinds := [], alts := [], laidByText := true, laidKinds := [.data, .pinned], laidTests := true, laidLooks := .later }
def FrameElsewhereCardSaid : Prop := Claim7.holds Tryd.pinned (.plain (OpenSpec.ofChange frameElsewhereSpec)) frameElsewhereCard

/-- THE SECOND FORM's CARD OF 'sextonlaw04.FrameOpens'. -/
def frameOpensUptoCard : Claim7 := { stood := { row := frameOpensUptoRow, standIns := [], harness := (true, "22b3aa5b6d5479b3190d6ca53512dd46c3755809d2c73df5d22075ab9de85702"), looks := false }, kinds := [], alts := [], laidByText := true, laidKinds := [.data, .pinned], laidTests := true, laidLooks := .later }
def FrameOpensUptoCardSaid : Prop := Claim7.holds Tryd.pinned (.plain (OpenSpec.upto frameOpensSpec)) frameOpensUptoCard

/-- THE SECOND FORM's CARD OF 'sextonlaw04.FrameBack'. -/
def frameBackUptoCard : Claim7 := { stood := { row := frameBackUptoRow, standIns := [], harness := (true, "22b3aa5b6d5479b3190d6ca53512dd46c3755809d2c73df5d22075ab9de85702"), looks := false }, kinds := [], alts := [], laidByText := true, laidKinds := [.data, .pinned], laidTests := true, laidLooks := .later }
def FrameBackUptoCardSaid : Prop := Claim7.holds Tryd.pinned (.plain (OpenSpec.upto frameBackSpec)) frameBackUptoCard

/-- THE SECOND FORM's CARD OF 'sextonlaw04.FrameSpoilt'. -/
def frameSpoiltUptoCard : Claim7 := { stood := { row := frameSpoiltUptoRow, standIns := [], harness := (true, "22b3aa5b6d5479b3190d6ca53512dd46c3755809d2c73df5d22075ab9de85702"), looks := false }, kinds := [], alts := [], laidByText := true, laidKinds := [.data, .pinned], laidTests := true, laidLooks := .later }
def FrameSpoiltUptoCardSaid : Prop := Claim7.holds Tryd.pinned (.plain (OpenSpec.upto frameSpoiltSpec)) frameSpoiltUptoCard

/-- THE SECOND FORM's CARD OF 'sextonlaw04.FrameNear'. -/
def frameNearUptoCard : Claim7 := { stood := { row := frameNearUptoRow, standIns := [], harness := (true, "22b3aa5b6d5479b3190d6ca53512dd46c3755809d2c73df5d22075ab9de85702"), looks := false }, kinds := [], alts := [], laidByText := true, laidKinds := [.data, .pinned], laidTests := true, laidLooks := .later }
def FrameNearUptoCardSaid : Prop := Claim7.holds Tryd.pinned (.plain (OpenSpec.upto frameNearSpec)) frameNearUptoCard

/-- THE SECOND FORM's CARD OF 'sextonlaw04.FrameCut'. -/
def frameCutUptoCard : Claim7 := { stood := { row := frameCutUptoRow, standIns := [], harness := (true, "22b3aa5b6d5479b3190d6ca53512dd46c3755809d2c73df5d22075ab9de85702"), looks := false }, kinds := [], alts := [], laidByText := true, laidKinds := [.data, .pinned], laidTests := true, laidLooks := .later }
def FrameCutUptoCardSaid : Prop := Claim7.holds Tryd.pinned (.plain (OpenSpec.upto frameCutSpec)) frameCutUptoCard

/-- THE SECOND FORM's CARD OF 'sextonlaw04.FrameElsewhere'. -/
def frameElsewhereUptoCard : Claim7 := { stood := { row := frameElsewhereUptoRow, standIns := [], harness := (true, "22b3aa5b6d5479b3190d6ca53512dd46c3755809d2c73df5d22075ab9de85702"), looks := false }, kinds := [], alts := [], laidByText := true, laidKinds := [.data, .pinned], laidTests := true, laidLooks := .later }
def FrameElsewhereUptoCardSaid : Prop := Claim7.holds Tryd.pinned (.plain (OpenSpec.upto frameElsewhereSpec)) frameElsewhereUptoCard
end Rows
end Go.Proofs.YtahfippapknolaaDoor
