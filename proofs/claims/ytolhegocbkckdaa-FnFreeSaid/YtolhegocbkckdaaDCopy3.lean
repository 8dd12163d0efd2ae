/-
  Copies of plans' trees by the reference. Own work; no condition.
-/
import Derived.Test.YtolhegocbkckdaaDCopy2
namespace Go.Proofs.Ytolhegocbkckdaa
open Go
set_option linter.unusedSimpArgs false
set_option linter.unusedVariables false
theorem cvL_map0 {α : Type} {f : α → V} (h : ∀ x, cv (f x) = 0) (l : List α) : cvL (l.map f) = 0 := by
  induction l with
  | nil => rfl
  | cons x l ih => simp only [List.map_cons, cvL, h x, ih]
end Go.Proofs.Ytolhegocbkckdaa
