
/-
  Marks written into lists of lists. No condition but a bound on the sizes.
-/
import Derived.Test.YthmaikfclfkblaaLists2
import Derived.Test.YthmaikfclfkblaaMarksI
import Derived.Test.YthmaikfclfkblaaAmMore3
namespace Go.Proofs.Ythmaikfclfkblaa
open Go Go.RowKit
attribute [local irreducible] AWp AOps ResIs Ret1 QOp LOp COp AFnV AFn Imms LeE LeO
set_option maxHeartbeats 1000000
set_option linter.unusedSimpArgs false
set_option linter.unusedVariables false

/-! ### Marks -/
end Go.Proofs.Ythmaikfclfkblaa
