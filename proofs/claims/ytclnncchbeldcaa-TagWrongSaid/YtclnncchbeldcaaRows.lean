/-
  No cell of these rows narrows 'for every input' (looked for: loops, veiled, ifaces, maps, wideKeys, modest, calm, conditions, laid).
  DERIVED. THE GIVEN ROWS OF THIS SEAT. 6 by the template 'for every input the law returns true; each argument reads behind the call as it read before'; 0 by the template 'total and deterministic' (their statements: YtclnncchbeldcaaTotals.lean).
  GIVEN WITH THE SEED: the statements are not yours to turn. If you find one false, say at which input.
  Laid BY PROGRAM, IN A SANDBOX (cutbox-rows.mjs): the forced cells as the released guide's own fill.sh prints them over the translation 4e5a4ec4e57d42e4… (all of the seat's roots in one cut). By AI agents, Wed Nov 11 2026. No macro, syntax, notation, axiom, sorry.
-/
import Derived.Test.YtclnncchbeldcaaChecked
import GoSem.Claim
import GoSem.ClaimJoined
import GoSem.ClaimMapViews
import Derived.JoinedTies
import Derived.KernelRfl
namespace Go.Proofs.Ytclnncchbeldcaa
/- THE CELL 'sum', in the pinned program and in every row, IS THE sha256 OF THE DUMP (.gsa) THAT YtclnncchbeldcaaProg.lean LOADS. Nothing in Lean hashes anything: it is a label: what it is worth is what the hold of that sum in a sandbox is worth. -/
noncomputable def Try.pinned : Pinned := { name := "ytclnncchbeldcaa", sum := "4e5a4ec4e57d42e494fa959c607c83827775524dc8eea14f7903e37a229546da", checked := Try.checked }
namespace Rows
def none {H : Type} : Left H := { results := [], args := [] }

/-- 'sextonlaw03.TagPlaces': WHATEVER THE INPUT: true; the input reads as it did. -/
def tagPlacesSpec : ChangeSpec := { name := "tagPlaces", fn := fun _ => fun
  | [d1, d2, d3] => { results := [.lit (.bool true)], args := [d1, d2, d3] }
  | _ => none }
def tagPlacesRow : OpenClaim := { program := "ytclnncchbeldcaa", sum := "4e5a4ec4e57d42e494fa959c607c83827775524dc8eea14f7903e37a229546da", func := "sexton/sextonlaw03.TagPlaces", spec := "tagPlaces", apart := false }
def TagPlacesSaid : Prop := tagPlacesRow.holds Try.pinned (OpenSpec.ofChange tagPlacesSpec)

/-- ITS FALSE NEIGHBOUR: 'it returns false'. Refute it at one input. -/
def tagPlacesWrong : ChangeSpec := { name := "tagPlaces", fn := fun _ => fun
  | [d1, d2, d3] => { results := [.lit (.bool false)], args := [d1, d2, d3] }
  | _ => none }
def TagPlacesWrongFalsely : Prop := tagPlacesRow.holds Try.pinned (OpenSpec.ofChange tagPlacesWrong)

/-- 'sextonlaw03.TagWrong': WHATEVER THE INPUT: true; the input reads as it did. -/
def tagWrongSpec : ChangeSpec := { name := "tagWrong", fn := fun _ => fun
  | [d1, d2, d3] => { results := [.lit (.bool true)], args := [d1, d2, d3] }
  | _ => none }
def tagWrongRow : OpenClaim := { program := "ytclnncchbeldcaa", sum := "4e5a4ec4e57d42e494fa959c607c83827775524dc8eea14f7903e37a229546da", func := "sexton/sextonlaw03.TagWrong", spec := "tagWrong", unfollowed := true, recurses := true, apart := false }
def TagWrongSaid : Prop := tagWrongRow.holds Try.pinned (OpenSpec.ofChange tagWrongSpec)

/-- ITS FALSE NEIGHBOUR: 'it returns false'. Refute it at one input. -/
def tagWrongWrong : ChangeSpec := { name := "tagWrong", fn := fun _ => fun
  | [d1, d2, d3] => { results := [.lit (.bool false)], args := [d1, d2, d3] }
  | _ => none }
def TagWrongWrongFalsely : Prop := tagWrongRow.holds Try.pinned (OpenSpec.ofChange tagWrongWrong)

/-- 'sextonlaw03.TagWhere': WHATEVER THE INPUT: true; the input reads as it did. -/
def tagWhereSpec : ChangeSpec := { name := "tagWhere", fn := fun _ => fun
  | [d1, d2, d3] => { results := [.lit (.bool true)], args := [d1, d2, d3] }
  | _ => none }
def tagWhereRow : OpenClaim := { program := "ytclnncchbeldcaa", sum := "4e5a4ec4e57d42e494fa959c607c83827775524dc8eea14f7903e37a229546da", func := "sexton/sextonlaw03.TagWhere", spec := "tagWhere", unfollowed := true, recurses := true, apart := false }
def TagWhereSaid : Prop := tagWhereRow.holds Try.pinned (OpenSpec.ofChange tagWhereSpec)

/-- ITS FALSE NEIGHBOUR: 'it returns false'. Refute it at one input. -/
def tagWhereWrong : ChangeSpec := { name := "tagWhere", fn := fun _ => fun
  | [d1, d2, d3] => { results := [.lit (.bool false)], args := [d1, d2, d3] }
  | _ => none }
def TagWhereWrongFalsely : Prop := tagWhereRow.holds Try.pinned (OpenSpec.ofChange tagWhereWrong)

/-- 'sextonlaw03.TagForms': WHATEVER THE INPUT: true; the input reads as it did. -/
def tagFormsSpec : ChangeSpec := { name := "tagForms", fn := fun _ => fun
  | [d1, d2] => { results := [.lit (.bool true)], args := [d1, d2] }
  | _ => none }
def tagFormsRow : OpenClaim := { program := "ytclnncchbeldcaa", sum := "4e5a4ec4e57d42e494fa959c607c83827775524dc8eea14f7903e37a229546da", func := "sexton/sextonlaw03.TagForms", spec := "tagForms", unfollowed := true, recurses := true, apart := false }
def TagFormsSaid : Prop := tagFormsRow.holds Try.pinned (OpenSpec.ofChange tagFormsSpec)

/-- ITS FALSE NEIGHBOUR: 'it returns false'. Refute it at one input. -/
def tagFormsWrong : ChangeSpec := { name := "tagForms", fn := fun _ => fun
  | [d1, d2] => { results := [.lit (.bool false)], args := [d1, d2] }
  | _ => none }
def TagFormsWrongFalsely : Prop := tagFormsRow.holds Try.pinned (OpenSpec.ofChange tagFormsWrong)

/-- 'sextonlaw03.TagBack': WHATEVER THE INPUT: true; the input reads as it did. -/
def tagBackSpec : ChangeSpec := { name := "tagBack", fn := fun _ => fun
  | [d1, d2] => { results := [.lit (.bool true)], args := [d1, d2] }
  | _ => none }
def tagBackRow : OpenClaim := { program := "ytclnncchbeldcaa", sum := "4e5a4ec4e57d42e494fa959c607c83827775524dc8eea14f7903e37a229546da", func := "sexton/sextonlaw03.TagBack", spec := "tagBack", unfollowed := true, recurses := true, apart := false }
def TagBackSaid : Prop := tagBackRow.holds Try.pinned (OpenSpec.ofChange tagBackSpec)

/-- ITS FALSE NEIGHBOUR: 'it returns false'. Refute it at one input. -/
def tagBackWrong : ChangeSpec := { name := "tagBack", fn := fun _ => fun
  | [d1, d2] => { results := [.lit (.bool false)], args := [d1, d2] }
  | _ => none }
def TagBackWrongFalsely : Prop := tagBackRow.holds Try.pinned (OpenSpec.ofChange tagBackWrong)

/-- 'sextonlaw03.TagCut': WHATEVER THE INPUT: true; the input reads as it did. -/
def tagCutSpec : ChangeSpec := { name := "tagCut", fn := fun _ => fun
  | [d1, d2, d3] => { results := [.lit (.bool true)], args := [d1, d2, d3] }
  | _ => none }
def tagCutRow : OpenClaim := { program := "ytclnncchbeldcaa", sum := "4e5a4ec4e57d42e494fa959c607c83827775524dc8eea14f7903e37a229546da", func := "sexton/sextonlaw03.TagCut", spec := "tagCut", unfollowed := true, recurses := true, apart := false }
def TagCutSaid : Prop := tagCutRow.holds Try.pinned (OpenSpec.ofChange tagCutSpec)

/-- ITS FALSE NEIGHBOUR: 'it returns false'. Refute it at one input. -/
def tagCutWrong : ChangeSpec := { name := "tagCut", fn := fun _ => fun
  | [d1, d2, d3] => { results := [.lit (.bool false)], args := [d1, d2, d3] }
  | _ => none }
def TagCutWrongFalsely : Prop := tagCutRow.holds Try.pinned (OpenSpec.ofChange tagCutWrong)

/- THE SECOND FORM. 'bulk': how many values and letters a reading holds, each counted each time it is reached (what is shared counts as often as it is met; a slice's spare places count too). A statement '..UptoSaid' is the law's where the arguments, and the package variables that the reading takes, are together of bulk at most 1048576: NARROWER than '..Said'. Prove '..Said' where nothing that the law and all that it calls make is longer than what came in: it says more and counts as full. Else prove '..UptoSaid'. A law counts once. -/
mutual
def uptoBulk {H : Type} : DataW H → Nat
  | .lit (.string bytes) => bytes.length + 1
  | .lit _ => 1
  | .nil => 1
  | .ptr d => uptoBulk d + 1
  | .slice elems spare => uptoBulkAll elems + uptoBulkAll spare + 1
  | .agg parts => uptoBulkAll parts + 1
  | .iface _ d => uptoBulk d + 1
  | .map entries => uptoBulkEntries entries + 1
  | .held _ => 1
def uptoBulkAll {H : Type} : List (DataW H) → Nat
  | [] => 0
  | d :: r => uptoBulk d + uptoBulkAll r
def uptoBulkEntries {H : Type} : List (Lit × DataW H) → Nat
  | [] => 0
  | x :: r => uptoBulkEntry x + uptoBulkEntries r
def uptoBulkEntry {H : Type} : Lit × DataW H → Nat
  | (.string bytes, d) => bytes.length + uptoBulk d + 1
  | (_, d) => uptoBulk d + 1
 end
def uptoSmall : (H : Type) → List (DataW H) → Bool := fun _ ds => decide (uptoBulkAll ds ≤ 1048576)
def OpenSpec.upto (s : _root_.Go.ChangeSpec) : _root_.Go.OpenSpec := { _root_.Go.OpenSpec.ofChange s with cond := some uptoSmall }

/-- 'sextonlaw03.TagPlaces', WHERE WHAT IT READS IS OF BULK AT MOST 1048576: true; the input reads as it did. -/
def tagPlacesUptoRow : OpenClaim := { program := "ytclnncchbeldcaa", sum := "4e5a4ec4e57d42e494fa959c607c83827775524dc8eea14f7903e37a229546da", func := "sexton/sextonlaw03.TagPlaces", spec := "tagPlaces", apart := false, narrowed := true }
def TagPlacesUptoSaid : Prop := tagPlacesUptoRow.holds Try.pinned (OpenSpec.upto tagPlacesSpec)

/-- 'sextonlaw03.TagWrong', WHERE WHAT IT READS IS OF BULK AT MOST 1048576: true; the input reads as it did. -/
def tagWrongUptoRow : OpenClaim := { program := "ytclnncchbeldcaa", sum := "4e5a4ec4e57d42e494fa959c607c83827775524dc8eea14f7903e37a229546da", func := "sexton/sextonlaw03.TagWrong", spec := "tagWrong", unfollowed := true, recurses := true, apart := false, narrowed := true }
def TagWrongUptoSaid : Prop := tagWrongUptoRow.holds Try.pinned (OpenSpec.upto tagWrongSpec)

/-- 'sextonlaw03.TagWhere', WHERE WHAT IT READS IS OF BULK AT MOST 1048576: true; the input reads as it did. -/
def tagWhereUptoRow : OpenClaim := { program := "ytclnncchbeldcaa", sum := "4e5a4ec4e57d42e494fa959c607c83827775524dc8eea14f7903e37a229546da", func := "sexton/sextonlaw03.TagWhere", spec := "tagWhere", unfollowed := true, recurses := true, apart := false, narrowed := true }
def TagWhereUptoSaid : Prop := tagWhereUptoRow.holds Try.pinned (OpenSpec.upto tagWhereSpec)

/-- 'sextonlaw03.TagForms', WHERE WHAT IT READS IS OF BULK AT MOST 1048576: true; the input reads as it did. -/
def tagFormsUptoRow : OpenClaim := { program := "ytclnncchbeldcaa", sum := "4e5a4ec4e57d42e494fa959c607c83827775524dc8eea14f7903e37a229546da", func := "sexton/sextonlaw03.TagForms", spec := "tagForms", unfollowed := true, recurses := true, apart := false, narrowed := true }
def TagFormsUptoSaid : Prop := tagFormsUptoRow.holds Try.pinned (OpenSpec.upto tagFormsSpec)

/-- 'sextonlaw03.TagBack', WHERE WHAT IT READS IS OF BULK AT MOST 1048576: true; the input reads as it did. -/
def tagBackUptoRow : OpenClaim := { program := "ytclnncchbeldcaa", sum := "4e5a4ec4e57d42e494fa959c607c83827775524dc8eea14f7903e37a229546da", func := "sexton/sextonlaw03.TagBack", spec := "tagBack", unfollowed := true, recurses := true, apart := false, narrowed := true }
def TagBackUptoSaid : Prop := tagBackUptoRow.holds Try.pinned (OpenSpec.upto tagBackSpec)

/-- 'sextonlaw03.TagCut', WHERE WHAT IT READS IS OF BULK AT MOST 1048576: true; the input reads as it did. -/
def tagCutUptoRow : OpenClaim := { program := "ytclnncchbeldcaa", sum := "4e5a4ec4e57d42e494fa959c607c83827775524dc8eea14f7903e37a229546da", func := "sexton/sextonlaw03.TagCut", spec := "tagCut", unfollowed := true, recurses := true, apart := false, narrowed := true }
def TagCutUptoSaid : Prop := tagCutUptoRow.holds Try.pinned (OpenSpec.upto tagCutSpec)

end Rows
end Go.Proofs.Ytclnncchbeldcaa
