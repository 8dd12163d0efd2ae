/-
  Copies as results of new memory alone. Printed by a program of our own; no condition.
-/
import Derived.Test.YtpnabgllpgodmaaDoorVFill
import Derived.Test.YtpnabgllpgodmaaDoorDMark
import Derived.Test.YtpnabgllpgodmaaDoorDRow
namespace Go.Proofs.YtpnabgllpgodmaaDoor
open Go
set_option linter.unusedSimpArgs false
set_option linter.unusedVariables false


end Go.Proofs.YtpnabgllpgodmaaDoor
