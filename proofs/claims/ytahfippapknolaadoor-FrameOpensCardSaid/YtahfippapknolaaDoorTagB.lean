/-
  THE WALKS OF tag/place.go, more: Where; the reference's places.
-/
import Derived.Test.YtahfippapknolaaDoorTagA
namespace Go.Proofs.YtahfippapknolaaDoor
open Go.RowKit
set_option linter.unusedVariables false

theorem results_tmp4 {fn : Func} {t u v x : Tmp} (h : fn.results = #[.tmp t, .tmp u, .tmp v, .tmp x]) (tmps : Array Value) (P : Program) (w : World) :
    (results fn tmps).run P w = .ok (.tuple #[tmps.getD t undef, tmps.getD u undef, tmps.getD v undef, tmps.getD x undef]) w := by simp [results, h]

/-- the region of a sector; 0: none -/
def whr (s : Int) : Int := if s < 0 ∨ 156 ≤ s then 0 else if s < 2 then 1 else if s < 4 then 2 else if s < 28 then 3 else if s < 124 then 4 else 5
def whp (s : Int) : Int := if whr s = 0 then 0 else (s - srt (whr s)) / wid (whr s)
def whk (s : Int) : Int := if whr s = 0 then 0 else (s - srt (whr s)) % wid (whr s)
def who (s : Int) : Bool := decide (whr s ≠ 0)

def RetW (w : World) (s : Int) : Ending → World → Prop := RetV w (.tuple #[.int .i64 (whr s), .int .i64 (whp s), .int .i64 (whk s), .bool (who s)])

end Go.Proofs.YtahfippapknolaaDoor
