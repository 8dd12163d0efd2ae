/-
  Copies as results of new memory alone. Printed by a program of our own; no condition.
-/
import Derived.Test.YtoededaekidbcaaDoorVFill
import Derived.Test.YtoededaekidbcaaDoorDMark
import Derived.Test.YtoededaekidbcaaDoorDRow
namespace Go.Proofs.YtoededaekidbcaaDoor
open Go
set_option linter.unusedSimpArgs false
set_option linter.unusedVariables false


end Go.Proofs.YtoededaekidbcaaDoor
