/-
  THE WALKS OF tag/tag.go: Parse.
-/
import Derived.Test.YtahfippapknolaaTagE
import Derived.Test.YtahfippapknolaaBlk
namespace Go.Proofs.Ytahfippapknolaa
open Go.RowKit
set_option linter.unusedVariables false

def parr (x0 x1 x2 x3 x4 : Int) (k : Nat) : Array Value := #[.int .i64 (if 0 < k then x0 else 0), .int .i64 (if 1 < k then x1 else 0), .int .i64 (if 2 < k then x2 else 0), .int .i64 (if 3 < k then x3 else 0), .int .i64 (if 4 < k then x4 else 0)]
def zero5 : Array Value := #[.int .i64 0, .int .i64 0, .int .i64 0, .int .i64 0, .int .i64 0]
end Go.Proofs.Ytahfippapknolaa
