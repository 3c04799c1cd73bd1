/-
  NARROWER THAN 'FOR EVERY INPUT', by the rows' own cells (each row's printed sentence says how): MessagePrints: laid · MessageParses: laid · MessageBack: laid · MessageTorn: laid · MessageFields: laid · MessageMore: laid.
  DERIVED. THE GIVEN ROWS OF THIS SEAT. 6 by the template 'for every input the law returns true; each argument reads behind the call as it read before'; 0 by the template 'total and deterministic' (their statements: YtajgikjmoeemnaaDoorTotals.lean).
  GIVEN WITH THE SEED: the statements are not yours to turn. If you find one false, say at which input.
  Laid BY PROGRAM, IN A SANDBOX (cutbox-rows.mjs): the forced cells as the released guide's own fill.sh prints them over the translation 2f4f69a5a301248b… (all of the seat's roots in one cut). By AI agents, Wed Nov 11 2026. No macro, syntax, notation, axiom, sorry.
-/
import Derived.Test.YtajgikjmoeemnaaDoorChecked
import GoSem.Claim
import GoSem.ClaimJoined
import GoSem.ClaimMapViews
import Derived.JoinedTies
import Derived.KernelRfl
namespace Go.Proofs.YtajgikjmoeemnaaDoor
/- THE CELL 'sum', in the pinned program and in every row, IS THE sha256 OF THE DUMP (.gsa) THAT YtajgikjmoeemnaaDoorProg.lean LOADS. Nothing in Lean hashes anything: it is a label: what it is worth is what the hold of that sum in a sandbox is worth. -/
noncomputable def Tryd.pinned : Pinned := { name := "ytajgikjmoeemnaadoor", sum := "2f4f69a5a301248be07fac40a8b7d0f07e9c07da3a1b13bcb1049c40fedce3b9", checked := Tryd.checked }
namespace Rows
def none {H : Type} : Left H := { results := [], args := [] }

/- WHAT THE LISTED PACKAGE-LEVEL VARIABLES READ AS WHEN THE CALL BEGINS. Each datum BY PROGRAM (the guide's laid-datum.mjs) off the statement by which the dump's own 'gosem.cut.vars' lays the variable. In a bare row this is a premise. The card (YtajgikjmoeemnaaDoorCards.lean) ties it to the program's text. -/
def laid_sexton_message_fields {H : Type} : DataW H := .agg [.lit (.string []), .lit (.string [115, 111]), .lit (.string [115, 114]), .lit (.string [98, 105]), .lit (.string [98, 122, 99, 108]), .lit (.string [98]), .lit (.string [98, 105, 99, 101]), .lit (.string [98, 105]), .lit (.string [98, 99, 110]), .lit (.string [98, 110]), .lit (.string [105]), .lit (.string [98, 105, 101]), .lit (.string [122, 107]), .lit (.string [122, 107, 109, 121]), .lit (.string [105]), .lit (.string [122, 107])]

/-- 'sextonlaw20.MessagePrints': WHATEVER THE INPUT: true; the input reads as it did. -/
def messagePrintsSpec : ChangeSpec := { name := "messagePrints", fn := fun _ => fun
  | [d1, d2, d3] => { results := [.lit (.bool true)], args := [d1, d2, d3] }
  | _ => none }
def messagePrintsRow : OpenClaim := { program := "ytajgikjmoeemnaadoor", sum := "2f4f69a5a301248be07fac40a8b7d0f07e9c07da3a1b13bcb1049c40fedce3b9", func := "sexton/sextonlaw20.MessagePrints", spec := "messagePrints", unfollowed := true, recurses := true, named := ["sexton/message.fields"], apart := false, laid := [("sexton/message.fields", laid_sexton_message_fields)] }
def MessagePrintsSaid : Prop := messagePrintsRow.holds Tryd.pinned (OpenSpec.ofChange messagePrintsSpec)

/-- ITS FALSE NEIGHBOUR: 'it returns false'. Refute it at one input. -/
def messagePrintsWrong : ChangeSpec := { name := "messagePrints", fn := fun _ => fun
  | [d1, d2, d3] => { results := [.lit (.bool false)], args := [d1, d2, d3] }
  | _ => none }
def MessagePrintsWrongFalsely : Prop := messagePrintsRow.holds Tryd.pinned (OpenSpec.ofChange messagePrintsWrong)

/-- 'sextonlaw20.MessageParses': WHATEVER THE INPUT: true; the input reads as it did. -/
def messageParsesSpec : ChangeSpec := { name := "messageParses", fn := fun _ => fun
  | [d1, d2] => { results := [.lit (.bool true)], args := [d1, d2] }
  | _ => none }
def messageParsesRow : OpenClaim := { program := "ytajgikjmoeemnaadoor", sum := "2f4f69a5a301248be07fac40a8b7d0f07e9c07da3a1b13bcb1049c40fedce3b9", func := "sexton/sextonlaw20.MessageParses", spec := "messageParses", unfollowed := true, recurses := true, named := ["sexton/message.fields"], apart := false, laid := [("sexton/message.fields", laid_sexton_message_fields)] }
def MessageParsesSaid : Prop := messageParsesRow.holds Tryd.pinned (OpenSpec.ofChange messageParsesSpec)

/-- ITS FALSE NEIGHBOUR: 'it returns false'. Refute it at one input. -/
def messageParsesWrong : ChangeSpec := { name := "messageParses", fn := fun _ => fun
  | [d1, d2] => { results := [.lit (.bool false)], args := [d1, d2] }
  | _ => none }
def MessageParsesWrongFalsely : Prop := messageParsesRow.holds Tryd.pinned (OpenSpec.ofChange messageParsesWrong)

/-- 'sextonlaw20.MessageBack': WHATEVER THE INPUT: true; the input reads as it did. -/
def messageBackSpec : ChangeSpec := { name := "messageBack", fn := fun _ => fun
  | [d1, d2, d3] => { results := [.lit (.bool true)], args := [d1, d2, d3] }
  | _ => none }
def messageBackRow : OpenClaim := { program := "ytajgikjmoeemnaadoor", sum := "2f4f69a5a301248be07fac40a8b7d0f07e9c07da3a1b13bcb1049c40fedce3b9", func := "sexton/sextonlaw20.MessageBack", spec := "messageBack", unfollowed := true, recurses := true, named := ["sexton/message.fields"], apart := false, laid := [("sexton/message.fields", laid_sexton_message_fields)] }
def MessageBackSaid : Prop := messageBackRow.holds Tryd.pinned (OpenSpec.ofChange messageBackSpec)

/-- ITS FALSE NEIGHBOUR: 'it returns false'. Refute it at one input. -/
def messageBackWrong : ChangeSpec := { name := "messageBack", fn := fun _ => fun
  | [d1, d2, d3] => { results := [.lit (.bool false)], args := [d1, d2, d3] }
  | _ => none }
def MessageBackWrongFalsely : Prop := messageBackRow.holds Tryd.pinned (OpenSpec.ofChange messageBackWrong)

/-- 'sextonlaw20.MessageTorn': WHATEVER THE INPUT: true; the input reads as it did. -/
def messageTornSpec : ChangeSpec := { name := "messageTorn", fn := fun _ => fun
  | [d1, d2, d3, d4] => { results := [.lit (.bool true)], args := [d1, d2, d3, d4] }
  | _ => none }
def messageTornRow : OpenClaim := { program := "ytajgikjmoeemnaadoor", sum := "2f4f69a5a301248be07fac40a8b7d0f07e9c07da3a1b13bcb1049c40fedce3b9", func := "sexton/sextonlaw20.MessageTorn", spec := "messageTorn", unfollowed := true, recurses := true, named := ["sexton/message.fields"], apart := false, laid := [("sexton/message.fields", laid_sexton_message_fields)] }
def MessageTornSaid : Prop := messageTornRow.holds Tryd.pinned (OpenSpec.ofChange messageTornSpec)

/-- ITS FALSE NEIGHBOUR: 'it returns false'. Refute it at one input. -/
def messageTornWrong : ChangeSpec := { name := "messageTorn", fn := fun _ => fun
  | [d1, d2, d3, d4] => { results := [.lit (.bool false)], args := [d1, d2, d3, d4] }
  | _ => none }
def MessageTornWrongFalsely : Prop := messageTornRow.holds Tryd.pinned (OpenSpec.ofChange messageTornWrong)

/-- 'sextonlaw20.MessageFields': WHATEVER THE INPUT: true; the input reads as it did. -/
def messageFieldsSpec : ChangeSpec := { name := "messageFields", fn := fun _ => fun
  | [d1, d2, d3, d4] => { results := [.lit (.bool true)], args := [d1, d2, d3, d4] }
  | _ => none }
def messageFieldsRow : OpenClaim := { program := "ytajgikjmoeemnaadoor", sum := "2f4f69a5a301248be07fac40a8b7d0f07e9c07da3a1b13bcb1049c40fedce3b9", func := "sexton/sextonlaw20.MessageFields", spec := "messageFields", unfollowed := true, recurses := true, named := ["sexton/message.fields"], apart := false, laid := [("sexton/message.fields", laid_sexton_message_fields)] }
def MessageFieldsSaid : Prop := messageFieldsRow.holds Tryd.pinned (OpenSpec.ofChange messageFieldsSpec)

/-- ITS FALSE NEIGHBOUR: 'it returns false'. Refute it at one input. -/
def messageFieldsWrong : ChangeSpec := { name := "messageFields", fn := fun _ => fun
  | [d1, d2, d3, d4] => { results := [.lit (.bool false)], args := [d1, d2, d3, d4] }
  | _ => none }
def MessageFieldsWrongFalsely : Prop := messageFieldsRow.holds Tryd.pinned (OpenSpec.ofChange messageFieldsWrong)

/-- 'sextonlaw20.MessageMore': WHATEVER THE INPUT: true; the input reads as it did. -/
def messageMoreSpec : ChangeSpec := { name := "messageMore", fn := fun _ => fun
  | [d1, d2, d3] => { results := [.lit (.bool true)], args := [d1, d2, d3] }
  | _ => none }
def messageMoreRow : OpenClaim := { program := "ytajgikjmoeemnaadoor", sum := "2f4f69a5a301248be07fac40a8b7d0f07e9c07da3a1b13bcb1049c40fedce3b9", func := "sexton/sextonlaw20.MessageMore", spec := "messageMore", unfollowed := true, recurses := true, named := ["sexton/message.fields"], apart := false, laid := [("sexton/message.fields", laid_sexton_message_fields)] }
def MessageMoreSaid : Prop := messageMoreRow.holds Tryd.pinned (OpenSpec.ofChange messageMoreSpec)

/-- ITS FALSE NEIGHBOUR: 'it returns false'. Refute it at one input. -/
def messageMoreWrong : ChangeSpec := { name := "messageMore", fn := fun _ => fun
  | [d1, d2, d3] => { results := [.lit (.bool false)], args := [d1, d2, d3] }
  | _ => none }
def MessageMoreWrongFalsely : Prop := messageMoreRow.holds Tryd.pinned (OpenSpec.ofChange messageMoreWrong)

/- THE SECOND FORM. 'bulk': how many values and letters a reading holds, each counted each time it is reached (what is shared counts as often as it is met; a slice's spare places count too). A statement '..UptoSaid' is the law's where the arguments, and the package variables that the reading takes, are together of bulk at most 1048576: NARROWER than '..Said'. Prove '..Said' where nothing that the law and all that it calls make is longer than what came in: it says more and counts as full. Else prove '..UptoSaid'. A law counts once. -/
mutual
def uptoBulk {H : Type} : DataW H → Nat
  | .lit (.string bytes) => bytes.length + 1
  | .lit _ => 1
  | .nil => 1
  | .ptr d => uptoBulk d + 1
  | .slice elems spare => uptoBulkAll elems + uptoBulkAll spare + 1
  | .agg parts => uptoBulkAll parts + 1
  | .iface _ d => uptoBulk d + 1
  | .map entries => uptoBulkEntries entries + 1
  | .held _ => 1
def uptoBulkAll {H : Type} : List (DataW H) → Nat
  | [] => 0
  | d :: r => uptoBulk d + uptoBulkAll r
def uptoBulkEntries {H : Type} : List (Lit × DataW H) → Nat
  | [] => 0
  | x :: r => uptoBulkEntry x + uptoBulkEntries r
def uptoBulkEntry {H : Type} : Lit × DataW H → Nat
  | (.string bytes, d) => bytes.length + uptoBulk d + 1
  | (_, d) => uptoBulk d + 1
 end
def uptoSmall : (H : Type) → List (DataW H) → Bool := fun _ ds => decide (uptoBulkAll ds ≤ 1048576)
def OpenSpec.upto (s : _root_.Go.ChangeSpec) : _root_.Go.OpenSpec := { _root_.Go.OpenSpec.ofChange s with cond := some uptoSmall }

/-- 'sextonlaw20.MessagePrints', WHERE WHAT IT READS IS OF BULK AT MOST 1048576: true; the input reads as it did. -/
def messagePrintsUptoRow : OpenClaim := { program := "ytajgikjmoeemnaadoor", sum := "2f4f69a5a301248be07fac40a8b7d0f07e9c07da3a1b13bcb1049c40fedce3b9", func := "sexton/sextonlaw20.MessagePrints", spec := "messagePrints", unfollowed := true, recurses := true, named := ["sexton/message.fields"], apart := false, laid := [("sexton/message.fields", laid_sexton_message_fields)], narrowed := true }
def MessagePrintsUptoSaid : Prop := messagePrintsUptoRow.holds Tryd.pinned (OpenSpec.upto messagePrintsSpec)

/-- 'sextonlaw20.MessageParses', WHERE WHAT IT READS IS OF BULK AT MOST 1048576: true; the input reads as it did. -/
def messageParsesUptoRow : OpenClaim := { program := "ytajgikjmoeemnaadoor", sum := "2f4f69a5a301248be07fac40a8b7d0f07e9c07da3a1b13bcb1049c40fedce3b9", func := "sexton/sextonlaw20.MessageParses", spec := "messageParses", unfollowed := true, recurses := true, named := ["sexton/message.fields"], apart := false, laid := [("sexton/message.fields", laid_sexton_message_fields)], narrowed := true }
def MessageParsesUptoSaid : Prop := messageParsesUptoRow.holds Tryd.pinned (OpenSpec.upto messageParsesSpec)

/-- 'sextonlaw20.MessageBack', WHERE WHAT IT READS IS OF BULK AT MOST 1048576: true; the input reads as it did. -/
def messageBackUptoRow : OpenClaim := { program := "ytajgikjmoeemnaadoor", sum := "2f4f69a5a301248be07fac40a8b7d0f07e9c07da3a1b13bcb1049c40fedce3b9", func := "sexton/sextonlaw20.MessageBack", spec := "messageBack", unfollowed := true, recurses := true, named := ["sexton/message.fields"], apart := false, laid := [("sexton/message.fields", laid_sexton_message_fields)], narrowed := true }
def MessageBackUptoSaid : Prop := messageBackUptoRow.holds Tryd.pinned (OpenSpec.upto messageBackSpec)

/-- 'sextonlaw20.MessageTorn', WHERE WHAT IT READS IS OF BULK AT MOST 1048576: true; the input reads as it did. -/
def messageTornUptoRow : OpenClaim := { program := "ytajgikjmoeemnaadoor", sum := "2f4f69a5a301248be07fac40a8b7d0f07e9c07da3a1b13bcb1049c40fedce3b9", func := "sexton/sextonlaw20.MessageTorn", spec := "messageTorn", unfollowed := true, recurses := true, named := ["sexton/message.fields"], apart := false, laid := [("sexton/message.fields", laid_sexton_message_fields)], narrowed := true }
def MessageTornUptoSaid : Prop := messageTornUptoRow.holds Tryd.pinned (OpenSpec.upto messageTornSpec)

/-- 'sextonlaw20.MessageFields', WHERE WHAT IT READS IS OF BULK AT MOST 1048576: true; the input reads as it did. -/
def messageFieldsUptoRow : OpenClaim := { program := "ytajgikjmoeemnaadoor", sum := "2f4f69a5a301248be07fac40a8b7d0f07e9c07da3a1b13bcb1049c40fedce3b9", func := "sexton/sextonlaw20.MessageFields", spec := "messageFields", unfollowed := true, recurses := true, named := ["sexton/message.fields"], apart := false, laid := [("sexton/message.fields", laid_sexton_message_fields)], narrowed := true }
def MessageFieldsUptoSaid : Prop := messageFieldsUptoRow.holds Tryd.pinned (OpenSpec.upto messageFieldsSpec)

/-- 'sextonlaw20.MessageMore', WHERE WHAT IT READS IS OF BULK AT MOST 1048576: true; the input reads as it did. -/
def messageMoreUptoRow : OpenClaim := { program := "ytajgikjmoeemnaadoor", sum := "2f4f69a5a301248be07fac40a8b7d0f07e9c07da3a1b13bcb1049c40fedce3b9", func := "sexton/sextonlaw20.MessageMore", spec := "messageMore", unfollowed := true, recurses := true, named := ["sexton/message.fields"], apart := false, laid := [("sexton/message.fields", laid_sexton_message_fields)], narrowed := true }
def MessageMoreUptoSaid : Prop := messageMoreUptoRow.holds Tryd.pinned (OpenSpec.upto messageMoreSpec)

end Rows
end Go.Proofs.YtajgikjmoeemnaaDoor
