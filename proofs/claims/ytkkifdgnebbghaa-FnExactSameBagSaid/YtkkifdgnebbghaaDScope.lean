/-
  Tables, columns and scopes looked up by name, of the program and of the reference. Own work; no condition.
-/
import Derived.Test.YtkkifdgnebbghaaDFam2
namespace Go.Proofs.Ytkkifdgnebbghaa
open Go
set_option linter.unusedSimpArgs false
set_option linter.unusedVariables false

def ints (l : List Int) : V := .sl 0 (l.map iV)
@[simp] theorem ints_dat (l : List Int) : (ints l).dat = true := by simp [ints]
@[simp] theorem ints_forget (l : List Int) : (ints l).forget = ints l := by simp [ints]

/-- The first that has it, or -1. -/
def findI {α : Type} (p : α → Bool) : List α → Int → Int
  | [], _ => -1
  | x :: xs, i => if p x then i else findI p xs (i + 1)
theorem findI_drop {α : Type} {p : α → Bool} {xs : List α} {i : Nat} (h : i < xs.length) : findI p (xs.drop i) i = if p xs[i] then (i : Int) else findI p (xs.drop (i + 1)) ((i + 1 : Nat) : Int) := by
  rw [List.drop_eq_getElem_cons h, findI]; rfl
theorem findI_end {α : Type} {p : α → Bool} {xs : List α} {i : Nat} (h : xs.length ≤ i) (n : Int) : findI p (xs.drop i) n = -1 := by rw [List.drop_of_length_le h]; rfl

/-- The places of those that have it. -/
def hits {α : Type} (p : α → Bool) (xs : List α) : Nat → List Int
  | 0 => []
  | i + 1 => hits p xs i ++ (match xs[i]? with | some x => if p x then [(i : Int)] else [] | none => [])
theorem hits_succ {α : Type} {p : α → Bool} {xs : List α} {i : Nat} (h : i < xs.length) : hits p xs (i + 1) = hits p xs i ++ (if p xs[i] then [(i : Int)] else []) := by
  rw [hits, List.getElem?_eq_getElem h]
theorem hits_len {α : Type} (p : α → Bool) (xs : List α) : ∀ i, (hits p xs i).length ≤ i
  | 0 => Nat.le_refl _
  | i + 1 => by
    have := hits_len p xs i
    unfold hits
    split
    · split <;> simp <;> omega
    · simp; omega

def tableP (name : List UInt8) (t : Tab) : Bool := decide (t.name = name)
def colP (name : List UInt8) (t : Col) : Bool := decide (t.name = name)
def Cat.at (c : Cat) (name : List UInt8) : Int := findI (tableP name) c.tables 0
def Tab.at (t : Tab) (name : List UInt8) : Int := findI (colP name) t.cols 0
def starP (qual : List UInt8) (x : Named) : Bool := decide (qual = []) || decide (x.qual = qual)
def matchP (qual name : List UInt8) (x : Named) : Bool := decide (x.name = name) && starP qual x
def Scope.star (s : Scope) (qual : List UInt8) : List Int := hits (starP qual) s.names s.names.length
def Scope.matches (s : Scope) (qual name : List UInt8) : List Int := hits (matchP qual name) s.names s.names.length







end Go.Proofs.Ytkkifdgnebbghaa
