/-
  'Rows.FnExactVarsOfSaid': the law returns true and each argument reads as before. No conditions of our own.
-/
import Derived.Test.YtehmlklfbllgcaaRows
import Derived.Test.YtehmlklfbllgcaaVRow
import Derived.Test.YtehmlklfbllgcaaDPVarsL
import Derived.WalkKit
import Derived.ProofKit
import Derived.OpenShut
namespace Go.Proofs.Ytehmlklfbllgcaa
open Go Go.ChangeShapes Go.WideShapes Go.ChangeAt Go.RowKit
set_option linter.unusedVariables false
set_option linter.unusedSimpArgs false

theorem fnExactVarsOf_own : ownKnob Try.prog.godebug = none := by kernel_rfl

/-- The law at the value level, for all that its arguments may be. -/
theorem fnExactVarsOf_all (vs : List V) (h : AllHas (fun t v => ∃ n, Has Try.prog n t v) [59] vs) (s : S) : VCalls Try.prog 7 vs s (fun v _ => v = .bool true) := by
  obtain ⟨v0, _, rfl, ⟨n0, h0⟩, rfl⟩ := h
  obtain ⟨a0, e0⟩ := Plan_has h0
  refine VCalls.forget ?_
  simp only [List.map_cons, List.map_nil, V.forget, e0]
  exact lawVarsOf_v a0 s

set_option maxRecDepth 100000 in
theorem fnExactVarsOf_lifted (os : Os) (started : os.Started) (H : Type) (enc : TypeId × Value → H) :
    ReturnsInHanded {} Try.checked os 7 .any (Rows.fnExactVarsOfSpec.pre6 enc Try.prog Try.f7 Rows.fnExactVarsOfRow.domain false) (Rows.fnExactVarsOfSpec.post enc Try.prog Try.f7 false true false false) := by
  refine returnsInHanded_of_change (C := Try.checked) fnExactVarsOf_own started (by kernel_rfl) Try.func7
    (ChangeSpec.witness6 (enc := enc) (C := Try.checked) false ⟨#[], #[.agg #[.slice none 0 0, .slice none 0 0, .slice none 0 0, .slice none 0 0, .slice none 0 0, .slice none 0 0, .bool false, .int .i64 0]], []⟩ 8 (by kernel_rfl) (by kernel_rfl) (by kernel_rfl) (by kernel_rfl)) ?_
  intro W base args ds gs before hval0 hW hcnd _
  have hval : ∀ (j : Nat) t v, Try.f7.params[j]? = some t → args[j]? = some v → Value.okWide Try.prog W .any base t v := hval0
  refine law_row (t := 4) [59, 32, 3, 54, 55, 77, 4, 74, 9, 75, 56, 162, 57] hW hval rfl (fun hl => ?_) (by kernel_rfl) Try.underlying4 (by kernel_rfl) (by kernel_rfl) (by kernel_rfl) (fun vs hvs s => ?_)
  · rw [Try.params7] at hl
    match ds, hl with
    | [d0], _ => rfl
  · rw [Try.params7] at hvs
    exact fnExactVarsOf_all vs hvs s

theorem fnExactVarsOf_over : Rows.fnExactVarsOfRow.holds Try.pinned (OpenSpec.ofChange Rows.fnExactVarsOfSpec) :=
  OpenClaim.holds_of_wide 7 Try.f7 rfl rfl rfl rfl rfl rfl rfl ⟨rfl, rfl, rfl, rfl, rfl⟩ rfl rfl rfl rfl rfl (by kernel_rfl) Try.func7 (by kernel_rfl)
    (of_decide_eq_true (by kernel_rfl)) (by unfold Func.isWrapper; first | (rw [if_pos (by decide +kernel)]; kernel_rfl) | (rw [if_neg (by decide +kernel)]; exact ⟨rfl, rfl⟩))
    (fun os started H enc _ => fnExactVarsOf_lifted os started H enc)

/-- The statement. -/
theorem fnExactVarsOf_holds : Rows.FnExactVarsOfSaid := fnExactVarsOf_over
#print axioms fnExactVarsOf_holds
end Go.Proofs.Ytehmlklfbllgcaa
