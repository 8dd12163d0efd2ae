/-
  Copies as results of new memory alone. Printed by a program of our own; no condition.
-/
import Derived.Test.YtkdphhopgmjjcaaVFill
import Derived.Test.YtkdphhopgmjjcaaDMark
import Derived.Test.YtkdphhopgmjjcaaDRow
namespace Go.Proofs.Ytkdphhopgmjjcaa
open Go
set_option linter.unusedSimpArgs false
set_option linter.unusedVariables false


end Go.Proofs.Ytkdphhopgmjjcaa
