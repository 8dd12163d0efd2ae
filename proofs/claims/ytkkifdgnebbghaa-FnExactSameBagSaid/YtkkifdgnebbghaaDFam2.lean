/-
  The plain types of the laws, continued. Printed by a program of our own; no condition.
-/
import Derived.Test.YtkkifdgnebbghaaDFam
namespace Go.Proofs.Ytkkifdgnebbghaa
open Go
set_option linter.unusedSimpArgs false
set_option linter.unusedVariables false

end Go.Proofs.Ytkkifdgnebbghaa
