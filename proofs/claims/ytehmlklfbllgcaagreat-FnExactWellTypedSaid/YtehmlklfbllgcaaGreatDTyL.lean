/-
  The laws of types of plans' trees. Own work; no condition.
-/
import Derived.Test.YtehmlklfbllgcaaGreatDTyI
namespace Go.Proofs.YtehmlklfbllgcaaGreat
open Go
set_option linter.unusedSimpArgs false
set_option linter.unusedVariables false
theorem SzC.okW2 {P : Program} {g : FuncId} {d : V} (h : SzC P g d) {w : Nat} (e : wgt d = w) {left : Int} (h1 : left ≤ 1048576) (h2 : (w : Int) ≤ left) (s : S) : VCalls P g [d, .int .i64 left] s (fun v s' => v = .int .i64 (left - (w : Nat)) ∧ s' = s) := by
  subst e
  exact h.ok h1 h2 s
theorem SzC.noW2 {P : Program} {g : FuncId} {d : V} (h : SzC P g d) {w : Nat} (e : wgt d = w) {left : Int} (h0 : 0 ≤ left) (h1 : left ≤ 1048576) (h2 : left < (w : Int)) (s : S) : VCalls P g [d, .int .i64 left] s (fun v s' => v = .int .i64 (-1) ∧ s' = s) := by
  subst e
  exact h.no h0 h1 h2 s
theorem intS_has2 {n : Nat} {v : V} (h : Has Tryz.prog n 52 v) : ∃ xs : List Int, v.forget = ints xs := slice_has (f := iV) Tryz.underlying52 (fun _ _ h => by obtain ⟨m, rfl⟩ := Has.int Tryz.underlying3 h; exact ⟨m, rfl⟩) h
theorem intSS_has {n : Nat} {v : V} (h : Has Tryz.prog n 25 v) : ∃ xs : List (List Int), v.forget = .sl 0 (xs.map ints) := slice_has (f := ints) Tryz.underlying25 (fun _ _ h => intS_has2 h) h
end Go.Proofs.YtehmlklfbllgcaaGreat
