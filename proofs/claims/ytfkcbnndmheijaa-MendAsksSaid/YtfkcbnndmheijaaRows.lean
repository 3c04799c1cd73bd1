/-
  No cell of these rows narrows 'for every input' (looked for: loops, veiled, ifaces, maps, wideKeys, modest, calm, conditions, laid).
  DERIVED. THE GIVEN ROWS OF THIS SEAT. 5 by the template 'for every input the law returns true; each argument reads behind the call as it read before'; 0 by the template 'total and deterministic' (their statements: YtfkcbnndmheijaaTotals.lean).
  GIVEN WITH THE SEED: the statements are not yours to turn. If you find one false, say at which input.
  Laid BY PROGRAM, IN A SANDBOX (cutbox-rows.mjs): the forced cells as the released guide's own fill.sh prints them over the translation 080c33130b32b5aa… (all of the seat's roots in one cut). By AI agents, Wed Nov 11 2026. No macro, syntax, notation, axiom, sorry.
-/
import Derived.Test.YtfkcbnndmheijaaChecked
import GoSem.Claim
import GoSem.ClaimJoined
import GoSem.ClaimMapViews
import Derived.JoinedTies
import Derived.KernelRfl
namespace Go.Proofs.Ytfkcbnndmheijaa
/- THE CELL 'sum', in the pinned program and in every row, IS THE sha256 OF THE DUMP (.gsa) THAT YtfkcbnndmheijaaProg.lean LOADS. Nothing in Lean hashes anything: it is a label: what it is worth is what the hold of that sum in a sandbox is worth. -/
noncomputable def Try.pinned : Pinned := { name := "ytfkcbnndmheijaa", sum := "080c33130b32b5aa5180baa3afd386de92d25f7d8ccc73a9e8a798c48392e6b1", checked := Try.checked }
namespace Rows
def none {H : Type} : Left H := { results := [], args := [] }

/-- 'sextonlaw25.MendAsks': WHATEVER THE INPUT: true; the input reads as it did. -/
def mendAsksSpec : ChangeSpec := { name := "mendAsks", fn := fun _ => fun
  | [d] => { results := [.lit (.bool true)], args := [d] }
  | _ => none }
def mendAsksRow : OpenClaim := { program := "ytfkcbnndmheijaa", sum := "080c33130b32b5aa5180baa3afd386de92d25f7d8ccc73a9e8a798c48392e6b1", func := "sexton/sextonlaw25.MendAsks", spec := "mendAsks", unfollowed := true, recurses := true, apart := false }
def MendAsksSaid : Prop := mendAsksRow.holds Try.pinned (OpenSpec.ofChange mendAsksSpec)

/-- ITS FALSE NEIGHBOUR: 'it returns false'. Refute it at one input. -/
def mendAsksWrong : ChangeSpec := { name := "mendAsks", fn := fun _ => fun
  | [d] => { results := [.lit (.bool false)], args := [d] }
  | _ => none }
def MendAsksWrongFalsely : Prop := mendAsksRow.holds Try.pinned (OpenSpec.ofChange mendAsksWrong)

/-- 'sextonlaw25.MendRound': WHATEVER THE INPUT: true; the input reads as it did. -/
def mendRoundSpec : ChangeSpec := { name := "mendRound", fn := fun _ => fun
  | [d1, d2, d3] => { results := [.lit (.bool true)], args := [d1, d2, d3] }
  | _ => none }
def mendRoundRow : OpenClaim := { program := "ytfkcbnndmheijaa", sum := "080c33130b32b5aa5180baa3afd386de92d25f7d8ccc73a9e8a798c48392e6b1", func := "sexton/sextonlaw25.MendRound", spec := "mendRound", unfollowed := true, recurses := true, apart := false }
def MendRoundSaid : Prop := mendRoundRow.holds Try.pinned (OpenSpec.ofChange mendRoundSpec)

/-- ITS FALSE NEIGHBOUR: 'it returns false'. Refute it at one input. -/
def mendRoundWrong : ChangeSpec := { name := "mendRound", fn := fun _ => fun
  | [d1, d2, d3] => { results := [.lit (.bool false)], args := [d1, d2, d3] }
  | _ => none }
def MendRoundWrongFalsely : Prop := mendRoundRow.holds Try.pinned (OpenSpec.ofChange mendRoundWrong)

/-- 'sextonlaw25.MendPlain': WHATEVER THE INPUT: true; the input reads as it did. -/
def mendPlainSpec : ChangeSpec := { name := "mendPlain", fn := fun _ => fun
  | [d] => { results := [.lit (.bool true)], args := [d] }
  | _ => none }
def mendPlainRow : OpenClaim := { program := "ytfkcbnndmheijaa", sum := "080c33130b32b5aa5180baa3afd386de92d25f7d8ccc73a9e8a798c48392e6b1", func := "sexton/sextonlaw25.MendPlain", spec := "mendPlain", unfollowed := true, recurses := true, apart := false }
def MendPlainSaid : Prop := mendPlainRow.holds Try.pinned (OpenSpec.ofChange mendPlainSpec)

/-- ITS FALSE NEIGHBOUR: 'it returns false'. Refute it at one input. -/
def mendPlainWrong : ChangeSpec := { name := "mendPlain", fn := fun _ => fun
  | [d] => { results := [.lit (.bool false)], args := [d] }
  | _ => none }
def MendPlainWrongFalsely : Prop := mendPlainRow.holds Try.pinned (OpenSpec.ofChange mendPlainWrong)

/-- 'sextonlaw25.MendAnswers': WHATEVER THE INPUT: true; the input reads as it did. -/
def mendAnswersSpec : ChangeSpec := { name := "mendAnswers", fn := fun _ => fun
  | [d1, d2] => { results := [.lit (.bool true)], args := [d1, d2] }
  | _ => none }
def mendAnswersRow : OpenClaim := { program := "ytfkcbnndmheijaa", sum := "080c33130b32b5aa5180baa3afd386de92d25f7d8ccc73a9e8a798c48392e6b1", func := "sexton/sextonlaw25.MendAnswers", spec := "mendAnswers", apart := false }
def MendAnswersSaid : Prop := mendAnswersRow.holds Try.pinned (OpenSpec.ofChange mendAnswersSpec)

/-- ITS FALSE NEIGHBOUR: 'it returns false'. Refute it at one input. -/
def mendAnswersWrong : ChangeSpec := { name := "mendAnswers", fn := fun _ => fun
  | [d1, d2] => { results := [.lit (.bool false)], args := [d1, d2] }
  | _ => none }
def MendAnswersWrongFalsely : Prop := mendAnswersRow.holds Try.pinned (OpenSpec.ofChange mendAnswersWrong)

/-- 'sextonlaw25.MendKnown': WHATEVER THE INPUT: true; the input reads as it did. -/
def mendKnownSpec : ChangeSpec := { name := "mendKnown", fn := fun _ => fun
  | [d1, d2] => { results := [.lit (.bool true)], args := [d1, d2] }
  | _ => none }
def mendKnownRow : OpenClaim := { program := "ytfkcbnndmheijaa", sum := "080c33130b32b5aa5180baa3afd386de92d25f7d8ccc73a9e8a798c48392e6b1", func := "sexton/sextonlaw25.MendKnown", spec := "mendKnown", unfollowed := true, recurses := true, apart := false }
def MendKnownSaid : Prop := mendKnownRow.holds Try.pinned (OpenSpec.ofChange mendKnownSpec)

/-- ITS FALSE NEIGHBOUR: 'it returns false'. Refute it at one input. -/
def mendKnownWrong : ChangeSpec := { name := "mendKnown", fn := fun _ => fun
  | [d1, d2] => { results := [.lit (.bool false)], args := [d1, d2] }
  | _ => none }
def MendKnownWrongFalsely : Prop := mendKnownRow.holds Try.pinned (OpenSpec.ofChange mendKnownWrong)

/- THE SECOND FORM. 'bulk': how many values and letters a reading holds, each counted each time it is reached (what is shared counts as often as it is met; a slice's spare places count too). A statement '..UptoSaid' is the law's where the arguments, and the package variables that the reading takes, are together of bulk at most 1048576: NARROWER than '..Said'. Prove '..Said' where nothing that the law and all that it calls make is longer than what came in: it says more and counts as full. Else prove '..UptoSaid'. A law counts once. -/
mutual
def uptoBulk {H : Type} : DataW H → Nat
  | .lit (.string bytes) => bytes.length + 1
  | .lit _ => 1
  | .nil => 1
  | .ptr d => uptoBulk d + 1
  | .slice elems spare => uptoBulkAll elems + uptoBulkAll spare + 1
  | .agg parts => uptoBulkAll parts + 1
  | .iface _ d => uptoBulk d + 1
  | .map entries => uptoBulkEntries entries + 1
  | .held _ => 1
def uptoBulkAll {H : Type} : List (DataW H) → Nat
  | [] => 0
  | d :: r => uptoBulk d + uptoBulkAll r
def uptoBulkEntries {H : Type} : List (Lit × DataW H) → Nat
  | [] => 0
  | x :: r => uptoBulkEntry x + uptoBulkEntries r
def uptoBulkEntry {H : Type} : Lit × DataW H → Nat
  | (.string bytes, d) => bytes.length + uptoBulk d + 1
  | (_, d) => uptoBulk d + 1
 end
def uptoSmall : (H : Type) → List (DataW H) → Bool := fun _ ds => decide (uptoBulkAll ds ≤ 1048576)
def OpenSpec.upto (s : _root_.Go.ChangeSpec) : _root_.Go.OpenSpec := { _root_.Go.OpenSpec.ofChange s with cond := some uptoSmall }

/-- 'sextonlaw25.MendAsks', WHERE WHAT IT READS IS OF BULK AT MOST 1048576: true; the input reads as it did. -/
def mendAsksUptoRow : OpenClaim := { program := "ytfkcbnndmheijaa", sum := "080c33130b32b5aa5180baa3afd386de92d25f7d8ccc73a9e8a798c48392e6b1", func := "sexton/sextonlaw25.MendAsks", spec := "mendAsks", unfollowed := true, recurses := true, apart := false, narrowed := true }
def MendAsksUptoSaid : Prop := mendAsksUptoRow.holds Try.pinned (OpenSpec.upto mendAsksSpec)

/-- 'sextonlaw25.MendRound', WHERE WHAT IT READS IS OF BULK AT MOST 1048576: true; the input reads as it did. -/
def mendRoundUptoRow : OpenClaim := { program := "ytfkcbnndmheijaa", sum := "080c33130b32b5aa5180baa3afd386de92d25f7d8ccc73a9e8a798c48392e6b1", func := "sexton/sextonlaw25.MendRound", spec := "mendRound", unfollowed := true, recurses := true, apart := false, narrowed := true }
def MendRoundUptoSaid : Prop := mendRoundUptoRow.holds Try.pinned (OpenSpec.upto mendRoundSpec)

/-- 'sextonlaw25.MendPlain', WHERE WHAT IT READS IS OF BULK AT MOST 1048576: true; the input reads as it did. -/
def mendPlainUptoRow : OpenClaim := { program := "ytfkcbnndmheijaa", sum := "080c33130b32b5aa5180baa3afd386de92d25f7d8ccc73a9e8a798c48392e6b1", func := "sexton/sextonlaw25.MendPlain", spec := "mendPlain", unfollowed := true, recurses := true, apart := false, narrowed := true }
def MendPlainUptoSaid : Prop := mendPlainUptoRow.holds Try.pinned (OpenSpec.upto mendPlainSpec)

/-- 'sextonlaw25.MendAnswers', WHERE WHAT IT READS IS OF BULK AT MOST 1048576: true; the input reads as it did. -/
def mendAnswersUptoRow : OpenClaim := { program := "ytfkcbnndmheijaa", sum := "080c33130b32b5aa5180baa3afd386de92d25f7d8ccc73a9e8a798c48392e6b1", func := "sexton/sextonlaw25.MendAnswers", spec := "mendAnswers", apart := false, narrowed := true }
def MendAnswersUptoSaid : Prop := mendAnswersUptoRow.holds Try.pinned (OpenSpec.upto mendAnswersSpec)

/-- 'sextonlaw25.MendKnown', WHERE WHAT IT READS IS OF BULK AT MOST 1048576: true; the input reads as it did. -/
def mendKnownUptoRow : OpenClaim := { program := "ytfkcbnndmheijaa", sum := "080c33130b32b5aa5180baa3afd386de92d25f7d8ccc73a9e8a798c48392e6b1", func := "sexton/sextonlaw25.MendKnown", spec := "mendKnown", unfollowed := true, recurses := true, apart := false, narrowed := true }
def MendKnownUptoSaid : Prop := mendKnownUptoRow.holds Try.pinned (OpenSpec.upto mendKnownSpec)

end Rows
end Go.Proofs.Ytfkcbnndmheijaa
