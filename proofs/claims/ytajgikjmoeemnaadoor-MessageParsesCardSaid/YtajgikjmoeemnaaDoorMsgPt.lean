/-
  THE LAW MessageParses, with what the document's Print answers.
-/
import Derived.Test.YtajgikjmoeemnaaDoorMsgPs
import Derived.Test.YtajgikjmoeemnaaDoorMsgZ
namespace Go.Proofs.YtajgikjmoeemnaaDoor
set_option maxRecDepth 100000
open Go.RowKit
theorem messageParses_walk (A : Option Addr) (c : Nat) (l : List UInt8) (n : Int) (w : World) (hF : FldW w) (hr : Rd w A l) (hc : l.length ≤ c) (hx : c ≤ maxLen) (b0 : -9223372036854775808 ≤ n) (b1 : n ≤ 9223372036854775807) :
    Calls Tryd.prog 4 #[.slice A l.length c, .int .i64 n] w (RetV w (.bool true)) :=
  parses_in (fun m rs l n w hN hR b0 b1 => mrprint_any m rs l n w hN hR b0 b1) A c l n w hF hr hc hx b0 b1
end Go.Proofs.YtajgikjmoeemnaaDoor
