/-
  No cell of these rows narrows 'for every input' (looked for: loops, veiled, ifaces, maps, wideKeys, modest, calm, conditions, laid).
  DERIVED. THE GIVEN ROWS OF THIS SEAT. 9 by the template 'for every input the law returns true; each argument reads behind the call as it read before'; 0 by the template 'total and deterministic' (their statements: YtolkdmelmpfmoaaTotals.lean).
  GIVEN WITH THE SEED: the statements are not yours to turn. If you find one false, say at which input.
  Laid BY PROGRAM, IN A SANDBOX (cutbox-rows.mjs): the forced cells as the released guide's own fill.sh prints them over the translation b81da2003bac4461… (all of the seat's roots in one cut). By AI agents, Wed Nov 11 2026. No macro, syntax, notation, axiom, sorry.
-/
import Derived.Test.YtolkdmelmpfmoaaChecked
import GoSem.Claim
import GoSem.ClaimJoined
import GoSem.ClaimMapViews
import Derived.JoinedTies
import Derived.KernelRfl
namespace Go.Proofs.Ytolkdmelmpfmoaa
/- THE CELL 'sum', in the pinned program and in every row, IS THE sha256 OF THE DUMP (.gsa) THAT YtolkdmelmpfmoaaProg.lean LOADS. Nothing in Lean hashes anything: it is a label: what it is worth is what the hold of that sum in a sandbox is worth. -/
noncomputable def Try.pinned : Pinned := { name := "ytolkdmelmpfmoaa", sum := "b81da2003bac4461eeba4cad46930a5dee0bbd31a66958ec47733945f333c0c5", checked := Try.checked }
namespace Rows
def none {H : Type} : Left H := { results := [], args := [] }

/-- 'sextonlaw02.CrcTurned': WHATEVER THE INPUT: true; the input reads as it did. -/
def crcTurnedSpec : ChangeSpec := { name := "crcTurned", fn := fun _ => fun
  | [d1, d2] => { results := [.lit (.bool true)], args := [d1, d2] }
  | _ => none }
def crcTurnedRow : OpenClaim := { program := "ytolkdmelmpfmoaa", sum := "b81da2003bac4461eeba4cad46930a5dee0bbd31a66958ec47733945f333c0c5", func := "sexton/sextonlaw02.CrcTurned", spec := "crcTurned", apart := false }
def CrcTurnedSaid : Prop := crcTurnedRow.holds Try.pinned (OpenSpec.ofChange crcTurnedSpec)

/-- ITS FALSE NEIGHBOUR: 'it returns false'. Refute it at one input. -/
def crcTurnedWrong : ChangeSpec := { name := "crcTurned", fn := fun _ => fun
  | [d1, d2] => { results := [.lit (.bool false)], args := [d1, d2] }
  | _ => none }
def CrcTurnedWrongFalsely : Prop := crcTurnedRow.holds Try.pinned (OpenSpec.ofChange crcTurnedWrong)

/-- 'sextonlaw02.CrcSums': WHATEVER THE INPUT: true; the input reads as it did. -/
def crcSumsSpec : ChangeSpec := { name := "crcSums", fn := fun _ => fun
  | [d1, d2] => { results := [.lit (.bool true)], args := [d1, d2] }
  | _ => none }
def crcSumsRow : OpenClaim := { program := "ytolkdmelmpfmoaa", sum := "b81da2003bac4461eeba4cad46930a5dee0bbd31a66958ec47733945f333c0c5", func := "sexton/sextonlaw02.CrcSums", spec := "crcSums", apart := false }
def CrcSumsSaid : Prop := crcSumsRow.holds Try.pinned (OpenSpec.ofChange crcSumsSpec)

/-- ITS FALSE NEIGHBOUR: 'it returns false'. Refute it at one input. -/
def crcSumsWrong : ChangeSpec := { name := "crcSums", fn := fun _ => fun
  | [d1, d2] => { results := [.lit (.bool false)], args := [d1, d2] }
  | _ => none }
def CrcSumsWrongFalsely : Prop := crcSumsRow.holds Try.pinned (OpenSpec.ofChange crcSumsWrong)

/-- 'sextonlaw02.CrcCombines': WHATEVER THE INPUT: true; the input reads as it did. -/
def crcCombinesSpec : ChangeSpec := { name := "crcCombines", fn := fun _ => fun
  | [d1, d2, d3] => { results := [.lit (.bool true)], args := [d1, d2, d3] }
  | _ => none }
def crcCombinesRow : OpenClaim := { program := "ytolkdmelmpfmoaa", sum := "b81da2003bac4461eeba4cad46930a5dee0bbd31a66958ec47733945f333c0c5", func := "sexton/sextonlaw02.CrcCombines", spec := "crcCombines", apart := false }
def CrcCombinesSaid : Prop := crcCombinesRow.holds Try.pinned (OpenSpec.ofChange crcCombinesSpec)

/-- ITS FALSE NEIGHBOUR: 'it returns false'. Refute it at one input. -/
def crcCombinesWrong : ChangeSpec := { name := "crcCombines", fn := fun _ => fun
  | [d1, d2, d3] => { results := [.lit (.bool false)], args := [d1, d2, d3] }
  | _ => none }
def CrcCombinesWrongFalsely : Prop := crcCombinesRow.holds Try.pinned (OpenSpec.ofChange crcCombinesWrong)

/-- 'sextonlaw02.CrcParts': WHATEVER THE INPUT: true; the input reads as it did. -/
def crcPartsSpec : ChangeSpec := { name := "crcParts", fn := fun _ => fun
  | [d1, d2, d3] => { results := [.lit (.bool true)], args := [d1, d2, d3] }
  | _ => none }
def crcPartsRow : OpenClaim := { program := "ytolkdmelmpfmoaa", sum := "b81da2003bac4461eeba4cad46930a5dee0bbd31a66958ec47733945f333c0c5", func := "sexton/sextonlaw02.CrcParts", spec := "crcParts", apart := false }
def CrcPartsSaid : Prop := crcPartsRow.holds Try.pinned (OpenSpec.ofChange crcPartsSpec)

/-- ITS FALSE NEIGHBOUR: 'it returns false'. Refute it at one input. -/
def crcPartsWrong : ChangeSpec := { name := "crcParts", fn := fun _ => fun
  | [d1, d2, d3] => { results := [.lit (.bool false)], args := [d1, d2, d3] }
  | _ => none }
def CrcPartsWrongFalsely : Prop := crcPartsRow.holds Try.pinned (OpenSpec.ofChange crcPartsWrong)

/-- 'sextonlaw02.CrcFar': WHATEVER THE INPUT: true; the input reads as it did. -/
def crcFarSpec : ChangeSpec := { name := "crcFar", fn := fun _ => fun
  | [d1, d2, d3] => { results := [.lit (.bool true)], args := [d1, d2, d3] }
  | _ => none }
def crcFarRow : OpenClaim := { program := "ytolkdmelmpfmoaa", sum := "b81da2003bac4461eeba4cad46930a5dee0bbd31a66958ec47733945f333c0c5", func := "sexton/sextonlaw02.CrcFar", spec := "crcFar", apart := false }
def CrcFarSaid : Prop := crcFarRow.holds Try.pinned (OpenSpec.ofChange crcFarSpec)

/-- ITS FALSE NEIGHBOUR: 'it returns false'. Refute it at one input. -/
def crcFarWrong : ChangeSpec := { name := "crcFar", fn := fun _ => fun
  | [d1, d2, d3] => { results := [.lit (.bool false)], args := [d1, d2, d3] }
  | _ => none }
def CrcFarWrongFalsely : Prop := crcFarRow.holds Try.pinned (OpenSpec.ofChange crcFarWrong)

/-- 'sextonlaw02.CrcFew': WHATEVER THE INPUT: true; the input reads as it did. -/
def crcFewSpec : ChangeSpec := { name := "crcFew", fn := fun _ => fun
  | [d1, d2, d3, d4] => { results := [.lit (.bool true)], args := [d1, d2, d3, d4] }
  | _ => none }
def crcFewRow : OpenClaim := { program := "ytolkdmelmpfmoaa", sum := "b81da2003bac4461eeba4cad46930a5dee0bbd31a66958ec47733945f333c0c5", func := "sexton/sextonlaw02.CrcFew", spec := "crcFew", apart := false }
def CrcFewSaid : Prop := crcFewRow.holds Try.pinned (OpenSpec.ofChange crcFewSpec)

/-- ITS FALSE NEIGHBOUR: 'it returns false'. Refute it at one input. -/
def crcFewWrong : ChangeSpec := { name := "crcFew", fn := fun _ => fun
  | [d1, d2, d3, d4] => { results := [.lit (.bool false)], args := [d1, d2, d3, d4] }
  | _ => none }
def CrcFewWrongFalsely : Prop := crcFewRow.holds Try.pinned (OpenSpec.ofChange crcFewWrong)

/-- 'sextonlaw02.CrcNear': WHATEVER THE INPUT: true; the input reads as it did. -/
def crcNearSpec : ChangeSpec := { name := "crcNear", fn := fun _ => fun
  | [d1, d2, d3] => { results := [.lit (.bool true)], args := [d1, d2, d3] }
  | _ => none }
def crcNearRow : OpenClaim := { program := "ytolkdmelmpfmoaa", sum := "b81da2003bac4461eeba4cad46930a5dee0bbd31a66958ec47733945f333c0c5", func := "sexton/sextonlaw02.CrcNear", spec := "crcNear", apart := false }
def CrcNearSaid : Prop := crcNearRow.holds Try.pinned (OpenSpec.ofChange crcNearSpec)

/-- ITS FALSE NEIGHBOUR: 'it returns false'. Refute it at one input. -/
def crcNearWrong : ChangeSpec := { name := "crcNear", fn := fun _ => fun
  | [d1, d2, d3] => { results := [.lit (.bool false)], args := [d1, d2, d3] }
  | _ => none }
def CrcNearWrongFalsely : Prop := crcNearRow.holds Try.pinned (OpenSpec.ofChange crcNearWrong)

/-- 'sextonlaw02.CrcOdd': WHATEVER THE INPUT: true; the input reads as it did. -/
def crcOddSpec : ChangeSpec := { name := "crcOdd", fn := fun _ => fun
  | [d1, d2] => { results := [.lit (.bool true)], args := [d1, d2] }
  | _ => none }
def crcOddRow : OpenClaim := { program := "ytolkdmelmpfmoaa", sum := "b81da2003bac4461eeba4cad46930a5dee0bbd31a66958ec47733945f333c0c5", func := "sexton/sextonlaw02.CrcOdd", spec := "crcOdd", apart := false }
def CrcOddSaid : Prop := crcOddRow.holds Try.pinned (OpenSpec.ofChange crcOddSpec)

/-- ITS FALSE NEIGHBOUR: 'it returns false'. Refute it at one input. -/
def crcOddWrong : ChangeSpec := { name := "crcOdd", fn := fun _ => fun
  | [d1, d2] => { results := [.lit (.bool false)], args := [d1, d2] }
  | _ => none }
def CrcOddWrongFalsely : Prop := crcOddRow.holds Try.pinned (OpenSpec.ofChange crcOddWrong)

/-- 'sextonlaw02.CrcTogether': WHATEVER THE INPUT: true; the input reads as it did. -/
def crcTogetherSpec : ChangeSpec := { name := "crcTogether", fn := fun _ => fun
  | [d1, d2, d3] => { results := [.lit (.bool true)], args := [d1, d2, d3] }
  | _ => none }
def crcTogetherRow : OpenClaim := { program := "ytolkdmelmpfmoaa", sum := "b81da2003bac4461eeba4cad46930a5dee0bbd31a66958ec47733945f333c0c5", func := "sexton/sextonlaw02.CrcTogether", spec := "crcTogether", apart := false }
def CrcTogetherSaid : Prop := crcTogetherRow.holds Try.pinned (OpenSpec.ofChange crcTogetherSpec)

/-- ITS FALSE NEIGHBOUR: 'it returns false'. Refute it at one input. -/
def crcTogetherWrong : ChangeSpec := { name := "crcTogether", fn := fun _ => fun
  | [d1, d2, d3] => { results := [.lit (.bool false)], args := [d1, d2, d3] }
  | _ => none }
def CrcTogetherWrongFalsely : Prop := crcTogetherRow.holds Try.pinned (OpenSpec.ofChange crcTogetherWrong)

/- THE SECOND FORM. 'bulk': how many values and letters a reading holds, each counted each time it is reached (what is shared counts as often as it is met; a slice's spare places count too). A statement '..UptoSaid' is the law's where the arguments, and the package variables that the reading takes, are together of bulk at most 1048576: NARROWER than '..Said'. Prove '..Said' where nothing that the law and all that it calls make is longer than what came in: it says more and counts as full. Else prove '..UptoSaid'. A law counts once. -/
mutual
def uptoBulk {H : Type} : DataW H → Nat
  | .lit (.string bytes) => bytes.length + 1
  | .lit _ => 1
  | .nil => 1
  | .ptr d => uptoBulk d + 1
  | .slice elems spare => uptoBulkAll elems + uptoBulkAll spare + 1
  | .agg parts => uptoBulkAll parts + 1
  | .iface _ d => uptoBulk d + 1
  | .map entries => uptoBulkEntries entries + 1
  | .held _ => 1
def uptoBulkAll {H : Type} : List (DataW H) → Nat
  | [] => 0
  | d :: r => uptoBulk d + uptoBulkAll r
def uptoBulkEntries {H : Type} : List (Lit × DataW H) → Nat
  | [] => 0
  | x :: r => uptoBulkEntry x + uptoBulkEntries r
def uptoBulkEntry {H : Type} : Lit × DataW H → Nat
  | (.string bytes, d) => bytes.length + uptoBulk d + 1
  | (_, d) => uptoBulk d + 1
 end
def uptoSmall : (H : Type) → List (DataW H) → Bool := fun _ ds => decide (uptoBulkAll ds ≤ 1048576)
def OpenSpec.upto (s : _root_.Go.ChangeSpec) : _root_.Go.OpenSpec := { _root_.Go.OpenSpec.ofChange s with cond := some uptoSmall }

/-- 'sextonlaw02.CrcTurned', WHERE WHAT IT READS IS OF BULK AT MOST 1048576: true; the input reads as it did. -/
def crcTurnedUptoRow : OpenClaim := { program := "ytolkdmelmpfmoaa", sum := "b81da2003bac4461eeba4cad46930a5dee0bbd31a66958ec47733945f333c0c5", func := "sexton/sextonlaw02.CrcTurned", spec := "crcTurned", apart := false, narrowed := true }
def CrcTurnedUptoSaid : Prop := crcTurnedUptoRow.holds Try.pinned (OpenSpec.upto crcTurnedSpec)

/-- 'sextonlaw02.CrcSums', WHERE WHAT IT READS IS OF BULK AT MOST 1048576: true; the input reads as it did. -/
def crcSumsUptoRow : OpenClaim := { program := "ytolkdmelmpfmoaa", sum := "b81da2003bac4461eeba4cad46930a5dee0bbd31a66958ec47733945f333c0c5", func := "sexton/sextonlaw02.CrcSums", spec := "crcSums", apart := false, narrowed := true }
def CrcSumsUptoSaid : Prop := crcSumsUptoRow.holds Try.pinned (OpenSpec.upto crcSumsSpec)

/-- 'sextonlaw02.CrcCombines', WHERE WHAT IT READS IS OF BULK AT MOST 1048576: true; the input reads as it did. -/
def crcCombinesUptoRow : OpenClaim := { program := "ytolkdmelmpfmoaa", sum := "b81da2003bac4461eeba4cad46930a5dee0bbd31a66958ec47733945f333c0c5", func := "sexton/sextonlaw02.CrcCombines", spec := "crcCombines", apart := false, narrowed := true }
def CrcCombinesUptoSaid : Prop := crcCombinesUptoRow.holds Try.pinned (OpenSpec.upto crcCombinesSpec)

/-- 'sextonlaw02.CrcParts', WHERE WHAT IT READS IS OF BULK AT MOST 1048576: true; the input reads as it did. -/
def crcPartsUptoRow : OpenClaim := { program := "ytolkdmelmpfmoaa", sum := "b81da2003bac4461eeba4cad46930a5dee0bbd31a66958ec47733945f333c0c5", func := "sexton/sextonlaw02.CrcParts", spec := "crcParts", apart := false, narrowed := true }
def CrcPartsUptoSaid : Prop := crcPartsUptoRow.holds Try.pinned (OpenSpec.upto crcPartsSpec)

/-- 'sextonlaw02.CrcFar', WHERE WHAT IT READS IS OF BULK AT MOST 1048576: true; the input reads as it did. -/
def crcFarUptoRow : OpenClaim := { program := "ytolkdmelmpfmoaa", sum := "b81da2003bac4461eeba4cad46930a5dee0bbd31a66958ec47733945f333c0c5", func := "sexton/sextonlaw02.CrcFar", spec := "crcFar", apart := false, narrowed := true }
def CrcFarUptoSaid : Prop := crcFarUptoRow.holds Try.pinned (OpenSpec.upto crcFarSpec)

/-- 'sextonlaw02.CrcFew', WHERE WHAT IT READS IS OF BULK AT MOST 1048576: true; the input reads as it did. -/
def crcFewUptoRow : OpenClaim := { program := "ytolkdmelmpfmoaa", sum := "b81da2003bac4461eeba4cad46930a5dee0bbd31a66958ec47733945f333c0c5", func := "sexton/sextonlaw02.CrcFew", spec := "crcFew", apart := false, narrowed := true }
def CrcFewUptoSaid : Prop := crcFewUptoRow.holds Try.pinned (OpenSpec.upto crcFewSpec)

/-- 'sextonlaw02.CrcNear', WHERE WHAT IT READS IS OF BULK AT MOST 1048576: true; the input reads as it did. -/
def crcNearUptoRow : OpenClaim := { program := "ytolkdmelmpfmoaa", sum := "b81da2003bac4461eeba4cad46930a5dee0bbd31a66958ec47733945f333c0c5", func := "sexton/sextonlaw02.CrcNear", spec := "crcNear", apart := false, narrowed := true }
def CrcNearUptoSaid : Prop := crcNearUptoRow.holds Try.pinned (OpenSpec.upto crcNearSpec)

/-- 'sextonlaw02.CrcOdd', WHERE WHAT IT READS IS OF BULK AT MOST 1048576: true; the input reads as it did. -/
def crcOddUptoRow : OpenClaim := { program := "ytolkdmelmpfmoaa", sum := "b81da2003bac4461eeba4cad46930a5dee0bbd31a66958ec47733945f333c0c5", func := "sexton/sextonlaw02.CrcOdd", spec := "crcOdd", apart := false, narrowed := true }
def CrcOddUptoSaid : Prop := crcOddUptoRow.holds Try.pinned (OpenSpec.upto crcOddSpec)

/-- 'sextonlaw02.CrcTogether', WHERE WHAT IT READS IS OF BULK AT MOST 1048576: true; the input reads as it did. -/
def crcTogetherUptoRow : OpenClaim := { program := "ytolkdmelmpfmoaa", sum := "b81da2003bac4461eeba4cad46930a5dee0bbd31a66958ec47733945f333c0c5", func := "sexton/sextonlaw02.CrcTogether", spec := "crcTogether", apart := false, narrowed := true }
def CrcTogetherUptoSaid : Prop := crcTogetherUptoRow.holds Try.pinned (OpenSpec.upto crcTogetherSpec)

end Rows
end Go.Proofs.Ytolkdmelmpfmoaa
