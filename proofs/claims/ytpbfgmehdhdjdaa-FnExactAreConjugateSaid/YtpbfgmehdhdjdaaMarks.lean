
/-
  The laws' helpers that write marks into a result and look for them. No condition but a bound on the sizes.
-/
import Derived.Test.YtpbfgmehdhdjdaaSer1
namespace Go.Proofs.Ytpbfgmehdhdjdaa
open Go Go.RowKit
attribute [local irreducible] AWp AOps ResIs Ret1 QOp LOp COp AFnV AFn Imms LeE LeO
set_option maxHeartbeats 1000000
set_option linter.unusedSimpArgs false
set_option linter.unusedVariables false

end Go.Proofs.Ytpbfgmehdhdjdaa
