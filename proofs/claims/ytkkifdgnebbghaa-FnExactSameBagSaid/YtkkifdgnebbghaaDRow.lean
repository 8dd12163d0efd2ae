/-
  Values and whether a row's values fit types, of the program and of the reference. Own work; no condition.
-/
import Derived.Test.YtkkifdgnebbghaaDScope
namespace Go.Proofs.Ytkkifdgnebbghaa
open Go
set_option linter.unusedSimpArgs false
set_option linter.unusedVariables false

def inR (x lo hi : Int) : Bool := decide (lo ≤ x) && decide (x ≤ hi)

def Val.ok (v : Val) : Bool :=
  if v.kind = 0 then decide (v.num = 0) && decide (v.text = []) else if v.kind = 1 then decide (v.text = []) else
  if v.kind = 2 then decide (v.num = 0) && decide ((v.text.length : Int) ≤ 200) else if v.kind = 3 then inR v.num 0 1 && decide (v.text = []) else false
def Val.fits (v : Val) (ty : Int) : Bool := v.ok && (decide (v.kind = 0) || decide (v.kind = ty))
theorem inR01 {n : Int} : inR n 0 1 = (decide (n = 0) || decide (n = 1)) := by
  unfold inR
  by_cases h0 : n = 0
  · subst h0; decide
  by_cases h1 : n = 1
  · subst h1; decide
  simp only [h0, h1, decide_false, Bool.or_self, Bool.and_eq_false_iff, decide_eq_false_iff_not]
  omega


/-- Whether the rest of a row fits the rest of the types. -/
def fitsAll : List Val → List Int → Bool
  | v :: vs, t :: ts => v.fits t && fitsAll vs ts
  | _, _ => true
def rowFits (row : List Val) (types : List Int) : Bool := decide (row.length = types.length) && fitsAll row types
theorem fitsAll_drop {row : List Val} {types : List Int} {i : Nat} (h1 : i < row.length) (h2 : i < types.length) : fitsAll (row.drop i) (types.drop i) = (row[i].fits types[i] && fitsAll (row.drop (i + 1)) (types.drop (i + 1))) := by
  rw [List.drop_eq_getElem_cons h1, List.drop_eq_getElem_cons h2, fitsAll]



end Go.Proofs.Ytkkifdgnebbghaa
