/-
  NARROWER THAN 'FOR EVERY INPUT', by the rows' own cells (each row's printed sentence says how): NetNil: laid · NetPlays: laid · NetOnce: laid · NetCut: laid · NetFull: laid.
  DERIVED. THE GIVEN ROWS OF THIS SEAT. 5 by the template 'for every input the law returns true; each argument reads behind the call as it read before'; 0 by the template 'total and deterministic' (their statements: YtiieakndjheknaaDoorTotals.lean).
  GIVEN WITH THE SEED: the statements are not yours to turn. If you find one false, say at which input.
  Laid BY PROGRAM, IN A SANDBOX (cutbox-rows.mjs): the forced cells as the released guide's own fill.sh prints them over the translation 9821d3b2d4c7c4b0… (all of the seat's roots in one cut). By AI agents, Wed Nov 11 2026. No macro, syntax, notation, axiom, sorry.
-/
import Derived.Test.YtiieakndjheknaaDoorChecked
import GoSem.Claim
import GoSem.ClaimJoined
import GoSem.ClaimMapViews
import Derived.JoinedTies
import Derived.KernelRfl
namespace Go.Proofs.YtiieakndjheknaaDoor
/- THE CELL 'sum', in the pinned program and in every row, IS THE sha256 OF THE DUMP (.gsa) THAT YtiieakndjheknaaDoorProg.lean LOADS. Nothing in Lean hashes anything: it is a label: what it is worth is what the hold of that sum in a sandbox is worth. -/
noncomputable def Tryd.pinned : Pinned := { name := "ytiieakndjheknaadoor", sum := "9821d3b2d4c7c4b0a0d594ac3458653a76eb2d95381b713267af629a40b9b536", checked := Tryd.checked }
namespace Rows
def none {H : Type} : Left H := { results := [], args := [] }

/- WHAT THE LISTED PACKAGE-LEVEL VARIABLES READ AS WHEN THE CALL BEGINS. Each datum BY PROGRAM (the guide's laid-datum.mjs) off the statement by which the dump's own 'gosem.cut.vars' lays the variable. In a bare row this is a premise. The card (YtiieakndjheknaaDoorCards.lean) ties it to the program's text. -/
def laid_sexton_message_fields {H : Type} : DataW H := .agg [.lit (.string []), .lit (.string [115, 111]), .lit (.string [115, 114]), .lit (.string [98, 105]), .lit (.string [98, 122, 99, 108]), .lit (.string [98]), .lit (.string [98, 105, 99, 101]), .lit (.string [98, 105]), .lit (.string [98, 99, 110]), .lit (.string [98, 110]), .lit (.string [105]), .lit (.string [98, 105, 101]), .lit (.string [122, 107]), .lit (.string [122, 107, 109, 121]), .lit (.string [105]), .lit (.string [122, 107])]

/-- 'sextonlaw28.NetNil': WHATEVER THE INPUT: true; the input reads as it did. -/
def netNilSpec : ChangeSpec := { name := "netNil", fn := fun _ => fun
  | [d1, d2, d3] => { results := [.lit (.bool true)], args := [d1, d2, d3] }
  | _ => none }
def netNilRow : OpenClaim := { program := "ytiieakndjheknaadoor", sum := "9821d3b2d4c7c4b0a0d594ac3458653a76eb2d95381b713267af629a40b9b536", func := "sexton/sextonlaw28.NetNil", spec := "netNil", unfollowed := true, recurses := true, named := ["sexton/message.fields"], apart := false, laid := [("sexton/message.fields", laid_sexton_message_fields)] }
def NetNilSaid : Prop := netNilRow.holds Tryd.pinned (OpenSpec.ofChange netNilSpec)

/-- ITS FALSE NEIGHBOUR: 'it returns false'. Refute it at one input. -/
def netNilWrong : ChangeSpec := { name := "netNil", fn := fun _ => fun
  | [d1, d2, d3] => { results := [.lit (.bool false)], args := [d1, d2, d3] }
  | _ => none }
def NetNilWrongFalsely : Prop := netNilRow.holds Tryd.pinned (OpenSpec.ofChange netNilWrong)

/-- 'sextonlaw28.NetPlays': WHATEVER THE INPUT: true; the input reads as it did. -/
def netPlaysSpec : ChangeSpec := { name := "netPlays", fn := fun _ => fun
  | [d1, d2] => { results := [.lit (.bool true)], args := [d1, d2] }
  | _ => none }
def netPlaysRow : OpenClaim := { program := "ytiieakndjheknaadoor", sum := "9821d3b2d4c7c4b0a0d594ac3458653a76eb2d95381b713267af629a40b9b536", func := "sexton/sextonlaw28.NetPlays", spec := "netPlays", unfollowed := true, recurses := true, named := ["sexton/message.fields"], apart := false, laid := [("sexton/message.fields", laid_sexton_message_fields)] }
def NetPlaysSaid : Prop := netPlaysRow.holds Tryd.pinned (OpenSpec.ofChange netPlaysSpec)

/-- ITS FALSE NEIGHBOUR: 'it returns false'. Refute it at one input. -/
def netPlaysWrong : ChangeSpec := { name := "netPlays", fn := fun _ => fun
  | [d1, d2] => { results := [.lit (.bool false)], args := [d1, d2] }
  | _ => none }
def NetPlaysWrongFalsely : Prop := netPlaysRow.holds Tryd.pinned (OpenSpec.ofChange netPlaysWrong)

/-- 'sextonlaw28.NetOnce': WHATEVER THE INPUT: true; the input reads as it did. -/
def netOnceSpec : ChangeSpec := { name := "netOnce", fn := fun _ => fun
  | [d1, d2] => { results := [.lit (.bool true)], args := [d1, d2] }
  | _ => none }
def netOnceRow : OpenClaim := { program := "ytiieakndjheknaadoor", sum := "9821d3b2d4c7c4b0a0d594ac3458653a76eb2d95381b713267af629a40b9b536", func := "sexton/sextonlaw28.NetOnce", spec := "netOnce", unfollowed := true, recurses := true, named := ["sexton/message.fields"], apart := false, laid := [("sexton/message.fields", laid_sexton_message_fields)] }
def NetOnceSaid : Prop := netOnceRow.holds Tryd.pinned (OpenSpec.ofChange netOnceSpec)

/-- ITS FALSE NEIGHBOUR: 'it returns false'. Refute it at one input. -/
def netOnceWrong : ChangeSpec := { name := "netOnce", fn := fun _ => fun
  | [d1, d2] => { results := [.lit (.bool false)], args := [d1, d2] }
  | _ => none }
def NetOnceWrongFalsely : Prop := netOnceRow.holds Tryd.pinned (OpenSpec.ofChange netOnceWrong)

/-- 'sextonlaw28.NetCut': WHATEVER THE INPUT: true; the input reads as it did. -/
def netCutSpec : ChangeSpec := { name := "netCut", fn := fun _ => fun
  | [d1, d2, d3, d4, d5] => { results := [.lit (.bool true)], args := [d1, d2, d3, d4, d5] }
  | _ => none }
def netCutRow : OpenClaim := { program := "ytiieakndjheknaadoor", sum := "9821d3b2d4c7c4b0a0d594ac3458653a76eb2d95381b713267af629a40b9b536", func := "sexton/sextonlaw28.NetCut", spec := "netCut", unfollowed := true, recurses := true, named := ["sexton/message.fields"], apart := false, laid := [("sexton/message.fields", laid_sexton_message_fields)] }
def NetCutSaid : Prop := netCutRow.holds Tryd.pinned (OpenSpec.ofChange netCutSpec)

/-- ITS FALSE NEIGHBOUR: 'it returns false'. Refute it at one input. -/
def netCutWrong : ChangeSpec := { name := "netCut", fn := fun _ => fun
  | [d1, d2, d3, d4, d5] => { results := [.lit (.bool false)], args := [d1, d2, d3, d4, d5] }
  | _ => none }
def NetCutWrongFalsely : Prop := netCutRow.holds Tryd.pinned (OpenSpec.ofChange netCutWrong)

/-- 'sextonlaw28.NetFull': WHATEVER THE INPUT: true; the input reads as it did. -/
def netFullSpec : ChangeSpec := { name := "netFull", fn := fun _ => fun
  | [d1, d2] => { results := [.lit (.bool true)], args := [d1, d2] }
  | _ => none }
def netFullRow : OpenClaim := { program := "ytiieakndjheknaadoor", sum := "9821d3b2d4c7c4b0a0d594ac3458653a76eb2d95381b713267af629a40b9b536", func := "sexton/sextonlaw28.NetFull", spec := "netFull", unfollowed := true, recurses := true, named := ["sexton/message.fields"], apart := false, laid := [("sexton/message.fields", laid_sexton_message_fields)] }
def NetFullSaid : Prop := netFullRow.holds Tryd.pinned (OpenSpec.ofChange netFullSpec)

/-- ITS FALSE NEIGHBOUR: 'it returns false'. Refute it at one input. -/
def netFullWrong : ChangeSpec := { name := "netFull", fn := fun _ => fun
  | [d1, d2] => { results := [.lit (.bool false)], args := [d1, d2] }
  | _ => none }
def NetFullWrongFalsely : Prop := netFullRow.holds Tryd.pinned (OpenSpec.ofChange netFullWrong)

/- THE SECOND FORM. 'bulk': how many values and letters a reading holds, each counted each time it is reached (what is shared counts as often as it is met; a slice's spare places count too). A statement '..UptoSaid' is the law's where the arguments, and the package variables that the reading takes, are together of bulk at most 1048576: NARROWER than '..Said'. Prove '..Said' where nothing that the law and all that it calls make is longer than what came in: it says more and counts as full. Else prove '..UptoSaid'. A law counts once. -/
mutual
def uptoBulk {H : Type} : DataW H → Nat
  | .lit (.string bytes) => bytes.length + 1
  | .lit _ => 1
  | .nil => 1
  | .ptr d => uptoBulk d + 1
  | .slice elems spare => uptoBulkAll elems + uptoBulkAll spare + 1
  | .agg parts => uptoBulkAll parts + 1
  | .iface _ d => uptoBulk d + 1
  | .map entries => uptoBulkEntries entries + 1
  | .held _ => 1
def uptoBulkAll {H : Type} : List (DataW H) → Nat
  | [] => 0
  | d :: r => uptoBulk d + uptoBulkAll r
def uptoBulkEntries {H : Type} : List (Lit × DataW H) → Nat
  | [] => 0
  | x :: r => uptoBulkEntry x + uptoBulkEntries r
def uptoBulkEntry {H : Type} : Lit × DataW H → Nat
  | (.string bytes, d) => bytes.length + uptoBulk d + 1
  | (_, d) => uptoBulk d + 1
 end
def uptoSmall : (H : Type) → List (DataW H) → Bool := fun _ ds => decide (uptoBulkAll ds ≤ 1048576)
def OpenSpec.upto (s : _root_.Go.ChangeSpec) : _root_.Go.OpenSpec := { _root_.Go.OpenSpec.ofChange s with cond := some uptoSmall }

/-- 'sextonlaw28.NetNil', WHERE WHAT IT READS IS OF BULK AT MOST 1048576: true; the input reads as it did. -/
def netNilUptoRow : OpenClaim := { program := "ytiieakndjheknaadoor", sum := "9821d3b2d4c7c4b0a0d594ac3458653a76eb2d95381b713267af629a40b9b536", func := "sexton/sextonlaw28.NetNil", spec := "netNil", unfollowed := true, recurses := true, named := ["sexton/message.fields"], apart := false, laid := [("sexton/message.fields", laid_sexton_message_fields)], narrowed := true }
def NetNilUptoSaid : Prop := netNilUptoRow.holds Tryd.pinned (OpenSpec.upto netNilSpec)

/-- 'sextonlaw28.NetPlays', WHERE WHAT IT READS IS OF BULK AT MOST 1048576: true; the input reads as it did. -/
def netPlaysUptoRow : OpenClaim := { program := "ytiieakndjheknaadoor", sum := "9821d3b2d4c7c4b0a0d594ac3458653a76eb2d95381b713267af629a40b9b536", func := "sexton/sextonlaw28.NetPlays", spec := "netPlays", unfollowed := true, recurses := true, named := ["sexton/message.fields"], apart := false, laid := [("sexton/message.fields", laid_sexton_message_fields)], narrowed := true }
def NetPlaysUptoSaid : Prop := netPlaysUptoRow.holds Tryd.pinned (OpenSpec.upto netPlaysSpec)

/-- 'sextonlaw28.NetOnce', WHERE WHAT IT READS IS OF BULK AT MOST 1048576: true; the input reads as it did. -/
def netOnceUptoRow : OpenClaim := { program := "ytiieakndjheknaadoor", sum := "9821d3b2d4c7c4b0a0d594ac3458653a76eb2d95381b713267af629a40b9b536", func := "sexton/sextonlaw28.NetOnce", spec := "netOnce", unfollowed := true, recurses := true, named := ["sexton/message.fields"], apart := false, laid := [("sexton/message.fields", laid_sexton_message_fields)], narrowed := true }
def NetOnceUptoSaid : Prop := netOnceUptoRow.holds Tryd.pinned (OpenSpec.upto netOnceSpec)

/-- 'sextonlaw28.NetCut', WHERE WHAT IT READS IS OF BULK AT MOST 1048576: true; the input reads as it did. -/
def netCutUptoRow : OpenClaim := { program := "ytiieakndjheknaadoor", sum := "9821d3b2d4c7c4b0a0d594ac3458653a76eb2d95381b713267af629a40b9b536", func := "sexton/sextonlaw28.NetCut", spec := "netCut", unfollowed := true, recurses := true, named := ["sexton/message.fields"], apart := false, laid := [("sexton/message.fields", laid_sexton_message_fields)], narrowed := true }
def NetCutUptoSaid : Prop := netCutUptoRow.holds Tryd.pinned (OpenSpec.upto netCutSpec)

/-- 'sextonlaw28.NetFull', WHERE WHAT IT READS IS OF BULK AT MOST 1048576: true; the input reads as it did. -/
def netFullUptoRow : OpenClaim := { program := "ytiieakndjheknaadoor", sum := "9821d3b2d4c7c4b0a0d594ac3458653a76eb2d95381b713267af629a40b9b536", func := "sexton/sextonlaw28.NetFull", spec := "netFull", unfollowed := true, recurses := true, named := ["sexton/message.fields"], apart := false, laid := [("sexton/message.fields", laid_sexton_message_fields)], narrowed := true }
def NetFullUptoSaid : Prop := netFullUptoRow.holds Tryd.pinned (OpenSpec.upto netFullSpec)

end Rows
end Go.Proofs.YtiieakndjheknaaDoor
