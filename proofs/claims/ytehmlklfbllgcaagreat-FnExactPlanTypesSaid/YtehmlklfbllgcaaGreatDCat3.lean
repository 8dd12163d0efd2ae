/-
  CatalogOk, of the program and of the reference, over DTyDef's nameOk. Own work; no condition.
-/
import Derived.Test.YtehmlklfbllgcaaGreatDTyA2
namespace Go.Proofs.YtehmlklfbllgcaaGreat
open Go
set_option linter.unusedSimpArgs false
set_option linter.unusedVariables false
set_option maxHeartbeats 4000000
def allI {α : Type} (p : Nat → α → Bool) : List α → Nat → Bool
  | [], _ => true
  | x :: xs, i => p i x && allI p xs (i + 1)
theorem allI_drop {α : Type} {p : Nat → α → Bool} {xs : List α} {i : Nat} (h : i < xs.length) : allI p (xs.drop i) i = (p i xs[i] && allI p (xs.drop (i + 1)) (i + 1)) := by
  rw [List.drop_eq_getElem_cons h, allI]
theorem allI_end {α : Type} {p : Nat → α → Bool} {xs : List α} {i : Nat} (h : xs.length ≤ i) (n : Nat) : allI p (xs.drop i) n = true := by rw [List.drop_of_length_le h]; rfl
def colOk (t : Tab) (k : Nat) (c : Col) : Bool := nameOk c.name && (inR c.type 1 3 && decide (t.at c.name = k))
def tabOk (t : Tab) : Bool := nameOk t.name && (inR t.cols.length 1 4 && allI (colOk t) t.cols 0)
def rowOk (c : Cat) (i : Nat) (t : Tab) : Bool := tabOk t && decide (c.at t.name = i)
def catOk (c : Cat) : Bool := decide ((c.tables.length : Int) ≤ 4) && allI (rowOk c) c.tables 0
end Go.Proofs.YtehmlklfbllgcaaGreat
