/-
  THE WALKS OF THE REFERENCE OF OCTET: each answers what the plain functions say; nothing that was there is written.
-/
import Derived.Test.YtanpglhpmfdnmaaOctPlain
import Derived.Test.YtanpglhpmfdnmaaSC
namespace Go.Proofs.Ytanpglhpmfdnmaa
open Go.RowKit

end Go.Proofs.Ytanpglhpmfdnmaa
