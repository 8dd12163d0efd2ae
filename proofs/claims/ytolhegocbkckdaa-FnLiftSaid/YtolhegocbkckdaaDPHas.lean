/-
  What has a type of plans' trees is one. Own work; no condition.
-/
import Derived.Test.YtolhegocbkckdaaDPE
import Derived.Test.YtolhegocbkckdaaDFam2
import Derived.Test.YtolhegocbkckdaaDRow
namespace Go.Proofs.Ytolhegocbkckdaa
open Go
set_option linter.unusedSimpArgs false
set_option linter.unusedVariables false
end Go.Proofs.Ytolhegocbkckdaa
