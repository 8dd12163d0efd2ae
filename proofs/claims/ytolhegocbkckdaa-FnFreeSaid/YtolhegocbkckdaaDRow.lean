/-
  Values and whether a row's values fit types, of the program and of the reference. Own work; no condition.
-/
import Derived.Test.YtolhegocbkckdaaDScope
namespace Go.Proofs.Ytolhegocbkckdaa
open Go
set_option linter.unusedSimpArgs false
set_option linter.unusedVariables false
def inR (x lo hi : Int) : Bool := decide (lo ≤ x) && decide (x ≤ hi)
def Val.ok (v : Val) : Bool :=
  if v.kind = 0 then decide (v.num = 0) && decide (v.text = []) else if v.kind = 1 then decide (v.text = []) else
  if v.kind = 2 then decide (v.num = 0) && decide ((v.text.length : Int) ≤ 200) else if v.kind = 3 then inR v.num 0 1 && decide (v.text = []) else false
def Val.fits (v : Val) (ty : Int) : Bool := v.ok && (decide (v.kind = 0) || decide (v.kind = ty))
/-- Whether the rest of a row fits the rest of the types. -/
def fitsAll : List Val → List Int → Bool
  | v :: vs, t :: ts => v.fits t && fitsAll vs ts
  | _, _ => true
def rowFits (row : List Val) (types : List Int) : Bool := decide (row.length = types.length) && fitsAll row types
end Go.Proofs.Ytolhegocbkckdaa
