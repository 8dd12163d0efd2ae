/-
  Copies as results of new memory alone. Printed by a program of our own; no condition.
-/
import Derived.Test.YtolhegocbkckdaaVFill
import Derived.Test.YtolhegocbkckdaaDMark
import Derived.Test.YtolhegocbkckdaaDRow
namespace Go.Proofs.Ytolhegocbkckdaa
open Go
set_option linter.unusedSimpArgs false
set_option linter.unusedVariables false


end Go.Proofs.Ytolhegocbkckdaa
