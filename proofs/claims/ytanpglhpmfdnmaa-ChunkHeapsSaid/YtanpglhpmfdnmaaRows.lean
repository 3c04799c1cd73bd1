/-
  No cell of these rows narrows 'for every input' (looked for: loops, veiled, ifaces, maps, wideKeys, modest, calm, conditions, laid).
  DERIVED. THE GIVEN ROWS OF THIS SEAT. 7 by the template 'for every input the law returns true; each argument reads behind the call as it read before'; 0 by the template 'total and deterministic' (their statements: YtanpglhpmfdnmaaTotals.lean).
  GIVEN WITH THE SEED: the statements are not yours to turn. If you find one false, say at which input.
  Laid BY PROGRAM, IN A SANDBOX (cutbox-rows.mjs): the forced cells as the released guide's own fill.sh prints them over the translation 36a0736093fc50cf… (all of the seat's roots in one cut). By AI agents, Wed Nov 11 2026. No macro, syntax, notation, axiom, sorry.
-/
import Derived.Test.YtanpglhpmfdnmaaChecked
import GoSem.Claim
import GoSem.ClaimJoined
import GoSem.ClaimMapViews
import Derived.JoinedTies
import Derived.KernelRfl
namespace Go.Proofs.Ytanpglhpmfdnmaa
/- THE CELL 'sum', in the pinned program and in every row, IS THE sha256 OF THE DUMP (.gsa) THAT YtanpglhpmfdnmaaProg.lean LOADS. Nothing in Lean hashes anything: it is a label: what it is worth is what the hold of that sum in a sandbox is worth. -/
noncomputable def Try.pinned : Pinned := { name := "ytanpglhpmfdnmaa", sum := "36a0736093fc50cfe66cbab84b2f74eaf8d058a146db612ef3c630b827e8f2c3", checked := Try.checked }
namespace Rows
def none {H : Type} : Left H := { results := [], args := [] }

/-- 'sextonlaw12.ChunkBodies': WHATEVER THE INPUT: true; the input reads as it did. -/
def chunkBodiesSpec : ChangeSpec := { name := "chunkBodies", fn := fun _ => fun
  | [d1, d2, d3] => { results := [.lit (.bool true)], args := [d1, d2, d3] }
  | _ => none }
def chunkBodiesRow : OpenClaim := { program := "ytanpglhpmfdnmaa", sum := "36a0736093fc50cfe66cbab84b2f74eaf8d058a146db612ef3c630b827e8f2c3", func := "sexton/sextonlaw12.ChunkBodies", spec := "chunkBodies", apart := false }
def ChunkBodiesSaid : Prop := chunkBodiesRow.holds Try.pinned (OpenSpec.ofChange chunkBodiesSpec)

/-- ITS FALSE NEIGHBOUR: 'it returns false'. Refute it at one input. -/
def chunkBodiesWrong : ChangeSpec := { name := "chunkBodies", fn := fun _ => fun
  | [d1, d2, d3] => { results := [.lit (.bool false)], args := [d1, d2, d3] }
  | _ => none }
def ChunkBodiesWrongFalsely : Prop := chunkBodiesRow.holds Try.pinned (OpenSpec.ofChange chunkBodiesWrong)

/-- 'sextonlaw12.ChunkNil': WHATEVER THE INPUT: true; the input reads as it did. -/
def chunkNilSpec : ChangeSpec := { name := "chunkNil", fn := fun _ => fun
  | [d1, d2] => { results := [.lit (.bool true)], args := [d1, d2] }
  | _ => none }
def chunkNilRow : OpenClaim := { program := "ytanpglhpmfdnmaa", sum := "36a0736093fc50cfe66cbab84b2f74eaf8d058a146db612ef3c630b827e8f2c3", func := "sexton/sextonlaw12.ChunkNil", spec := "chunkNil", apart := false }
def ChunkNilSaid : Prop := chunkNilRow.holds Try.pinned (OpenSpec.ofChange chunkNilSpec)

/-- ITS FALSE NEIGHBOUR: 'it returns false'. Refute it at one input. -/
def chunkNilWrong : ChangeSpec := { name := "chunkNil", fn := fun _ => fun
  | [d1, d2] => { results := [.lit (.bool false)], args := [d1, d2] }
  | _ => none }
def ChunkNilWrongFalsely : Prop := chunkNilRow.holds Try.pinned (OpenSpec.ofChange chunkNilWrong)

/-- 'sextonlaw12.ChunkHeaps': WHATEVER THE INPUT: true; the input reads as it did. -/
def chunkHeapsSpec : ChangeSpec := { name := "chunkHeaps", fn := fun _ => fun
  | [d1, d2] => { results := [.lit (.bool true)], args := [d1, d2] }
  | _ => none }
def chunkHeapsRow : OpenClaim := { program := "ytanpglhpmfdnmaa", sum := "36a0736093fc50cfe66cbab84b2f74eaf8d058a146db612ef3c630b827e8f2c3", func := "sexton/sextonlaw12.ChunkHeaps", spec := "chunkHeaps", apart := false }
def ChunkHeapsSaid : Prop := chunkHeapsRow.holds Try.pinned (OpenSpec.ofChange chunkHeapsSpec)

/-- ITS FALSE NEIGHBOUR: 'it returns false'. Refute it at one input. -/
def chunkHeapsWrong : ChangeSpec := { name := "chunkHeaps", fn := fun _ => fun
  | [d1, d2] => { results := [.lit (.bool false)], args := [d1, d2] }
  | _ => none }
def ChunkHeapsWrongFalsely : Prop := chunkHeapsRow.holds Try.pinned (OpenSpec.ofChange chunkHeapsWrong)

/-- 'sextonlaw12.ChunkSplits': WHATEVER THE INPUT: true; the input reads as it did. -/
def chunkSplitsSpec : ChangeSpec := { name := "chunkSplits", fn := fun _ => fun
  | [d1, d2] => { results := [.lit (.bool true)], args := [d1, d2] }
  | _ => none }
def chunkSplitsRow : OpenClaim := { program := "ytanpglhpmfdnmaa", sum := "36a0736093fc50cfe66cbab84b2f74eaf8d058a146db612ef3c630b827e8f2c3", func := "sexton/sextonlaw12.ChunkSplits", spec := "chunkSplits", unfollowed := true, recurses := true, apart := false }
def ChunkSplitsSaid : Prop := chunkSplitsRow.holds Try.pinned (OpenSpec.ofChange chunkSplitsSpec)

/-- ITS FALSE NEIGHBOUR: 'it returns false'. Refute it at one input. -/
def chunkSplitsWrong : ChangeSpec := { name := "chunkSplits", fn := fun _ => fun
  | [d1, d2] => { results := [.lit (.bool false)], args := [d1, d2] }
  | _ => none }
def ChunkSplitsWrongFalsely : Prop := chunkSplitsRow.holds Try.pinned (OpenSpec.ofChange chunkSplitsWrong)

/-- 'sextonlaw12.ChunkBack': WHATEVER THE INPUT: true; the input reads as it did. -/
def chunkBackSpec : ChangeSpec := { name := "chunkBack", fn := fun _ => fun
  | [d1, d2] => { results := [.lit (.bool true)], args := [d1, d2] }
  | _ => none }
def chunkBackRow : OpenClaim := { program := "ytanpglhpmfdnmaa", sum := "36a0736093fc50cfe66cbab84b2f74eaf8d058a146db612ef3c630b827e8f2c3", func := "sexton/sextonlaw12.ChunkBack", spec := "chunkBack", unfollowed := true, recurses := true, apart := false }
def ChunkBackSaid : Prop := chunkBackRow.holds Try.pinned (OpenSpec.ofChange chunkBackSpec)

/-- ITS FALSE NEIGHBOUR: 'it returns false'. Refute it at one input. -/
def chunkBackWrong : ChangeSpec := { name := "chunkBack", fn := fun _ => fun
  | [d1, d2] => { results := [.lit (.bool false)], args := [d1, d2] }
  | _ => none }
def ChunkBackWrongFalsely : Prop := chunkBackRow.holds Try.pinned (OpenSpec.ofChange chunkBackWrong)

/-- 'sextonlaw12.ChunkBodyBack': WHATEVER THE INPUT: true; the input reads as it did. -/
def chunkBodyBackSpec : ChangeSpec := { name := "chunkBodyBack", fn := fun _ => fun
  | [d1, d2, d3] => { results := [.lit (.bool true)], args := [d1, d2, d3] }
  | _ => none }
def chunkBodyBackRow : OpenClaim := { program := "ytanpglhpmfdnmaa", sum := "36a0736093fc50cfe66cbab84b2f74eaf8d058a146db612ef3c630b827e8f2c3", func := "sexton/sextonlaw12.ChunkBodyBack", spec := "chunkBodyBack", unfollowed := true, recurses := true, apart := false }
def ChunkBodyBackSaid : Prop := chunkBodyBackRow.holds Try.pinned (OpenSpec.ofChange chunkBodyBackSpec)

/-- ITS FALSE NEIGHBOUR: 'it returns false'. Refute it at one input. -/
def chunkBodyBackWrong : ChangeSpec := { name := "chunkBodyBack", fn := fun _ => fun
  | [d1, d2, d3] => { results := [.lit (.bool false)], args := [d1, d2, d3] }
  | _ => none }
def ChunkBodyBackWrongFalsely : Prop := chunkBodyBackRow.holds Try.pinned (OpenSpec.ofChange chunkBodyBackWrong)

/-- 'sextonlaw12.ChunkAnyOrder': WHATEVER THE INPUT: true; the input reads as it did. -/
def chunkAnyOrderSpec : ChangeSpec := { name := "chunkAnyOrder", fn := fun _ => fun
  | [d1, d2, d3] => { results := [.lit (.bool true)], args := [d1, d2, d3] }
  | _ => none }
def chunkAnyOrderRow : OpenClaim := { program := "ytanpglhpmfdnmaa", sum := "36a0736093fc50cfe66cbab84b2f74eaf8d058a146db612ef3c630b827e8f2c3", func := "sexton/sextonlaw12.ChunkAnyOrder", spec := "chunkAnyOrder", unfollowed := true, recurses := true, apart := false }
def ChunkAnyOrderSaid : Prop := chunkAnyOrderRow.holds Try.pinned (OpenSpec.ofChange chunkAnyOrderSpec)

/-- ITS FALSE NEIGHBOUR: 'it returns false'. Refute it at one input. -/
def chunkAnyOrderWrong : ChangeSpec := { name := "chunkAnyOrder", fn := fun _ => fun
  | [d1, d2, d3] => { results := [.lit (.bool false)], args := [d1, d2, d3] }
  | _ => none }
def ChunkAnyOrderWrongFalsely : Prop := chunkAnyOrderRow.holds Try.pinned (OpenSpec.ofChange chunkAnyOrderWrong)

/- THE SECOND FORM. 'bulk': how many values and letters a reading holds, each counted each time it is reached (what is shared counts as often as it is met; a slice's spare places count too). A statement '..UptoSaid' is the law's where the arguments, and the package variables that the reading takes, are together of bulk at most 1048576: NARROWER than '..Said'. Prove '..Said' where nothing that the law and all that it calls make is longer than what came in: it says more and counts as full. Else prove '..UptoSaid'. A law counts once. -/
mutual
def uptoBulk {H : Type} : DataW H → Nat
  | .lit (.string bytes) => bytes.length + 1
  | .lit _ => 1
  | .nil => 1
  | .ptr d => uptoBulk d + 1
  | .slice elems spare => uptoBulkAll elems + uptoBulkAll spare + 1
  | .agg parts => uptoBulkAll parts + 1
  | .iface _ d => uptoBulk d + 1
  | .map entries => uptoBulkEntries entries + 1
  | .held _ => 1
def uptoBulkAll {H : Type} : List (DataW H) → Nat
  | [] => 0
  | d :: r => uptoBulk d + uptoBulkAll r
def uptoBulkEntries {H : Type} : List (Lit × DataW H) → Nat
  | [] => 0
  | x :: r => uptoBulkEntry x + uptoBulkEntries r
def uptoBulkEntry {H : Type} : Lit × DataW H → Nat
  | (.string bytes, d) => bytes.length + uptoBulk d + 1
  | (_, d) => uptoBulk d + 1
 end
def uptoSmall : (H : Type) → List (DataW H) → Bool := fun _ ds => decide (uptoBulkAll ds ≤ 1048576)
def OpenSpec.upto (s : _root_.Go.ChangeSpec) : _root_.Go.OpenSpec := { _root_.Go.OpenSpec.ofChange s with cond := some uptoSmall }

/-- 'sextonlaw12.ChunkBodies', WHERE WHAT IT READS IS OF BULK AT MOST 1048576: true; the input reads as it did. -/
def chunkBodiesUptoRow : OpenClaim := { program := "ytanpglhpmfdnmaa", sum := "36a0736093fc50cfe66cbab84b2f74eaf8d058a146db612ef3c630b827e8f2c3", func := "sexton/sextonlaw12.ChunkBodies", spec := "chunkBodies", apart := false, narrowed := true }
def ChunkBodiesUptoSaid : Prop := chunkBodiesUptoRow.holds Try.pinned (OpenSpec.upto chunkBodiesSpec)

/-- 'sextonlaw12.ChunkNil', WHERE WHAT IT READS IS OF BULK AT MOST 1048576: true; the input reads as it did. -/
def chunkNilUptoRow : OpenClaim := { program := "ytanpglhpmfdnmaa", sum := "36a0736093fc50cfe66cbab84b2f74eaf8d058a146db612ef3c630b827e8f2c3", func := "sexton/sextonlaw12.ChunkNil", spec := "chunkNil", apart := false, narrowed := true }
def ChunkNilUptoSaid : Prop := chunkNilUptoRow.holds Try.pinned (OpenSpec.upto chunkNilSpec)

/-- 'sextonlaw12.ChunkHeaps', WHERE WHAT IT READS IS OF BULK AT MOST 1048576: true; the input reads as it did. -/
def chunkHeapsUptoRow : OpenClaim := { program := "ytanpglhpmfdnmaa", sum := "36a0736093fc50cfe66cbab84b2f74eaf8d058a146db612ef3c630b827e8f2c3", func := "sexton/sextonlaw12.ChunkHeaps", spec := "chunkHeaps", apart := false, narrowed := true }
def ChunkHeapsUptoSaid : Prop := chunkHeapsUptoRow.holds Try.pinned (OpenSpec.upto chunkHeapsSpec)

/-- 'sextonlaw12.ChunkSplits', WHERE WHAT IT READS IS OF BULK AT MOST 1048576: true; the input reads as it did. -/
def chunkSplitsUptoRow : OpenClaim := { program := "ytanpglhpmfdnmaa", sum := "36a0736093fc50cfe66cbab84b2f74eaf8d058a146db612ef3c630b827e8f2c3", func := "sexton/sextonlaw12.ChunkSplits", spec := "chunkSplits", unfollowed := true, recurses := true, apart := false, narrowed := true }
def ChunkSplitsUptoSaid : Prop := chunkSplitsUptoRow.holds Try.pinned (OpenSpec.upto chunkSplitsSpec)

/-- 'sextonlaw12.ChunkBack', WHERE WHAT IT READS IS OF BULK AT MOST 1048576: true; the input reads as it did. -/
def chunkBackUptoRow : OpenClaim := { program := "ytanpglhpmfdnmaa", sum := "36a0736093fc50cfe66cbab84b2f74eaf8d058a146db612ef3c630b827e8f2c3", func := "sexton/sextonlaw12.ChunkBack", spec := "chunkBack", unfollowed := true, recurses := true, apart := false, narrowed := true }
def ChunkBackUptoSaid : Prop := chunkBackUptoRow.holds Try.pinned (OpenSpec.upto chunkBackSpec)

/-- 'sextonlaw12.ChunkBodyBack', WHERE WHAT IT READS IS OF BULK AT MOST 1048576: true; the input reads as it did. -/
def chunkBodyBackUptoRow : OpenClaim := { program := "ytanpglhpmfdnmaa", sum := "36a0736093fc50cfe66cbab84b2f74eaf8d058a146db612ef3c630b827e8f2c3", func := "sexton/sextonlaw12.ChunkBodyBack", spec := "chunkBodyBack", unfollowed := true, recurses := true, apart := false, narrowed := true }
def ChunkBodyBackUptoSaid : Prop := chunkBodyBackUptoRow.holds Try.pinned (OpenSpec.upto chunkBodyBackSpec)

/-- 'sextonlaw12.ChunkAnyOrder', WHERE WHAT IT READS IS OF BULK AT MOST 1048576: true; the input reads as it did. -/
def chunkAnyOrderUptoRow : OpenClaim := { program := "ytanpglhpmfdnmaa", sum := "36a0736093fc50cfe66cbab84b2f74eaf8d058a146db612ef3c630b827e8f2c3", func := "sexton/sextonlaw12.ChunkAnyOrder", spec := "chunkAnyOrder", unfollowed := true, recurses := true, apart := false, narrowed := true }
def ChunkAnyOrderUptoSaid : Prop := chunkAnyOrderUptoRow.holds Try.pinned (OpenSpec.upto chunkAnyOrderSpec)

end Rows
end Go.Proofs.Ytanpglhpmfdnmaa
