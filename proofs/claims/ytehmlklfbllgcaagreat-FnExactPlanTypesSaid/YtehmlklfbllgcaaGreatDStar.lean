/-
  Matches, StarOf and Find, of the program and of the reference. Own work; no condition.
-/
import Derived.Test.YtehmlklfbllgcaaGreatDScope
namespace Go.Proofs.YtehmlklfbllgcaaGreat
open Go
set_option linter.unusedSimpArgs false
set_option linter.unusedVariables false
def findV (r : Bind × Int) : V := .tup [r.1.toV, .int .i64 r.2]
@[simp] theorem findV_dat (r : Bind × Int) : (findV r).dat = true := by simp [findV]
end Go.Proofs.YtehmlklfbllgcaaGreat
