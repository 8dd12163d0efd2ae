/-
  Copies of plans' trees by the reference; the parts of plans. Own work; no condition.
-/
import Derived.Test.YtolhegocbkckdaaDCopy3
namespace Go.Proofs.Ytolhegocbkckdaa
open Go
set_option linter.unusedSimpArgs false
set_option linter.unusedVariables false
end Go.Proofs.Ytolhegocbkckdaa
