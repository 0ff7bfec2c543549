
/-
  bits.Len, by the library's own contract laid at this dump in plain words. No condition.
-/
import Derived.Shelf.Small.Bits
import Derived.Test.YtpbfgmehdhdjdaaInts
import Derived.Test.YtpbfgmehdhdjdaaAmMore
import Derived.Test.YtpbfgmehdhdjdaaProg
namespace Go.Proofs.Ytpbfgmehdhdjdaa
open Go Go.RowKit Go.Shelf
end Go.Proofs.Ytpbfgmehdhdjdaa
