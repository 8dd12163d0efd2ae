/-
  Lists compared element by element: of the program, of the reference and of Go's library. Printed by a program of our own; no condition.
-/
import Derived.Test.YtoagpmhdgllchaaDRow
namespace Go.Proofs.Ytoagpmhdgllchaa
open Go
set_option linter.unusedSimpArgs false
set_option linter.unusedVariables false

def eqAll {α : Type} (p : α → α → Bool) : List α → List α → Bool
  | x :: xs, y :: ys => p x y && eqAll p xs ys
  | _, _ => true
/-- As many, and alike one by one. -/
def same {α : Type} (p : α → α → Bool) (a b : List α) : Bool := decide (a.length = b.length) && eqAll p a b
theorem eqAll_drop {α : Type} {p : α → α → Bool} {a b : List α} {i : Nat} (h1 : i < a.length) (h2 : i < b.length) : eqAll p (a.drop i) (b.drop i) = (p a[i] b[i] && eqAll p (a.drop (i + 1)) (b.drop (i + 1))) := by
  rw [List.drop_eq_getElem_cons h1, List.drop_eq_getElem_cons h2, eqAll]
theorem same_ne {α : Type} {p : α → α → Bool} {a b : List α} (h : ¬ (a.length : Int) = b.length) : same p a b = false := by
  unfold same
  rw [decide_eq_false (by omega)]; rfl
theorem same_eq {α : Type} {p : α → α → Bool} {a b : List α} (h : (a.length : Int) = b.length) : same p a b = eqAll p (a.drop 0) (b.drop 0) := by
  unfold same
  rw [decide_eq_true (by omega)]; rfl
theorem eqAll_end {α : Type} {p : α → α → Bool} {a b : List α} {i : Nat} (h : a.length ≤ i) : eqAll p (a.drop i) (b.drop i) = true := by rw [List.drop_of_length_le h]; unfold eqAll; rfl
def valEq (a b : Val) : Bool := decide (a.kind = b.kind) && (decide (a.num = b.num) && (decide (a.text = b.text) && true))
def colEq (a b : Col) : Bool := decide (a.name = b.name) && (decide (a.type = b.type) && true)
def intEq (a b : Int) : Bool := decide (a = b)
def strEq (a b : List UInt8) : Bool := decide (a = b)
def rowEq (a b : List Val) : Bool := same valEq a b
def dataEq (a b : Data) : Bool := same rowEq a.rows b.rows
def tabEq (a b : Tab) : Bool := decide (a.name = b.name) && same colEq a.cols b.cols


theorem rows_len {rows : List (List Val)} (h : slW (slW Val.wt) rows ≤ 1048576) {x : List Val} (hx : x ∈ rows) : x.length ≤ 1048576 := by
  obtain ⟨i, hi, rfl⟩ := List.getElem_of_mem hx
  have h1 := mem_slW (f := slW Val.wt) hi
  have h2 := len_slW Val.wt rows[i]
  omega

end Go.Proofs.Ytoagpmhdgllchaa
