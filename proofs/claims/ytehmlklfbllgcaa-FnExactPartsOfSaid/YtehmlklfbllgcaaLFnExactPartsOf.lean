/-
  'Rows.FnExactPartsOfSaid': the law returns true and each argument reads as before. No conditions of our own.
-/
import Derived.Test.YtehmlklfbllgcaaRows
import Derived.Test.YtehmlklfbllgcaaVRow
import Derived.Test.YtehmlklfbllgcaaDPartsL
import Derived.WalkKit
import Derived.ProofKit
import Derived.OpenShut
namespace Go.Proofs.Ytehmlklfbllgcaa
open Go Go.ChangeShapes Go.WideShapes Go.ChangeAt Go.RowKit
set_option linter.unusedVariables false
set_option linter.unusedSimpArgs false

theorem fnExactPartsOf_own : ownKnob Try.prog.godebug = none := by kernel_rfl

/-- The law at the value level, for all that its arguments may be. -/
theorem fnExactPartsOf_all (vs : List V) (h : AllHas (fun t v => ∃ n, Has Try.prog n t v) [59] vs) (s : S) : VCalls Try.prog 9 vs s (fun v _ => v = .bool true) := by
  obtain ⟨v0, _, rfl, ⟨n0, h0⟩, rfl⟩ := h
  obtain ⟨a0, e0⟩ := Plan_has h0
  refine VCalls.forget ?_
  simp only [List.map_cons, List.map_nil, V.forget, e0]
  exact lawPartsOf_v a0 s

set_option maxRecDepth 100000 in
theorem fnExactPartsOf_lifted (os : Os) (started : os.Started) (H : Type) (enc : TypeId × Value → H) :
    ReturnsInHanded {} Try.checked os 9 .any (Rows.fnExactPartsOfSpec.pre6 enc Try.prog Try.f9 Rows.fnExactPartsOfRow.domain false) (Rows.fnExactPartsOfSpec.post enc Try.prog Try.f9 false true false false) := by
  refine returnsInHanded_of_change (C := Try.checked) fnExactPartsOf_own started (by kernel_rfl) Try.func9
    (ChangeSpec.witness6 (enc := enc) (C := Try.checked) false ⟨#[], #[.agg #[.slice none 0 0, .slice none 0 0, .slice none 0 0, .slice none 0 0, .slice none 0 0, .slice none 0 0, .bool false, .int .i64 0]], []⟩ 8 (by kernel_rfl) (by kernel_rfl) (by kernel_rfl) (by kernel_rfl)) ?_
  intro W base args ds gs before hval0 hW hcnd _
  have hval : ∀ (j : Nat) t v, Try.f9.params[j]? = some t → args[j]? = some v → Value.okWide Try.prog W .any base t v := hval0
  refine law_row (t := 4) [59, 32, 3, 54, 55, 77, 4, 74, 9, 75, 56, 162, 57] hW hval rfl (fun hl => ?_) (by kernel_rfl) Try.underlying4 (by kernel_rfl) (by kernel_rfl) (by kernel_rfl) (fun vs hvs s => ?_)
  · rw [Try.params9] at hl
    match ds, hl with
    | [d0], _ => rfl
  · rw [Try.params9] at hvs
    exact fnExactPartsOf_all vs hvs s

theorem fnExactPartsOf_over : Rows.fnExactPartsOfRow.holds Try.pinned (OpenSpec.ofChange Rows.fnExactPartsOfSpec) :=
  OpenClaim.holds_of_wide 9 Try.f9 rfl rfl rfl rfl rfl rfl rfl ⟨rfl, rfl, rfl, rfl, rfl⟩ rfl rfl rfl rfl rfl (by kernel_rfl) Try.func9 (by kernel_rfl)
    (of_decide_eq_true (by kernel_rfl)) (by unfold Func.isWrapper; first | (rw [if_pos (by decide +kernel)]; kernel_rfl) | (rw [if_neg (by decide +kernel)]; exact ⟨rfl, rfl⟩))
    (fun os started H enc _ => fnExactPartsOf_lifted os started H enc)

/-- The statement. -/
theorem fnExactPartsOf_holds : Rows.FnExactPartsOfSaid := fnExactPartsOf_over
#print axioms fnExactPartsOf_holds
end Go.Proofs.Ytehmlklfbllgcaa
