/-
  Copies as results of new memory alone. Printed by a program of our own; no condition.
-/
import Derived.Test.YtehmlklfbllgcaaGreatVFill
import Derived.Test.YtehmlklfbllgcaaGreatDMark
import Derived.Test.YtehmlklfbllgcaaGreatDRow
namespace Go.Proofs.YtehmlklfbllgcaaGreat
open Go
set_option linter.unusedSimpArgs false
set_option linter.unusedVariables false
end Go.Proofs.YtehmlklfbllgcaaGreat
