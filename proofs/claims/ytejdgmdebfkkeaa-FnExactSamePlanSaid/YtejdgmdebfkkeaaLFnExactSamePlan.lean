/-
  'Rows.FnExactSamePlanSaid': the law returns true and each argument reads as before. No conditions of our own.
-/
import Derived.Test.YtejdgmdebfkkeaaRows
import Derived.Test.YtejdgmdebfkkeaaVRow
import Derived.Test.YtejdgmdebfkkeaaDPLaw
import Derived.WalkKit
import Derived.ProofKit
import Derived.OpenShut
namespace Go.Proofs.Ytejdgmdebfkkeaa
open Go Go.ChangeShapes Go.WideShapes Go.ChangeAt Go.RowKit
set_option linter.unusedVariables false
set_option linter.unusedSimpArgs false

theorem fnExactSamePlan_own : ownKnob Try.prog.godebug = none := by kernel_rfl

/-- The law at the value level, for all that its arguments may be. -/
theorem fnExactSamePlan_all (vs : List V) (h : AllHas (fun t v => ∃ n, Has Try.prog n t v) [78, 78] vs) (s : S) : VCalls Try.prog 11 vs s (fun v _ => v = .bool true) := by
  obtain ⟨v0, _, rfl, ⟨n0, h0⟩, v1, _, rfl, ⟨n1, h1⟩, rfl⟩ := h
  obtain ⟨a0, e0⟩ := Plan_has h0
  obtain ⟨a1, e1⟩ := Plan_has h1
  refine VCalls.forget ?_
  simp only [List.map_cons, List.map_nil, V.forget, e0, e1]
  exact lawSamePlan_v a0 a1 s

set_option maxRecDepth 100000 in
theorem fnExactSamePlan_lifted (os : Os) (started : os.Started) (H : Type) (enc : TypeId × Value → H) :
    ReturnsInHanded {} Try.checked os 11 .any (Rows.fnExactSamePlanSpec.pre6 enc Try.prog Try.f11 Rows.fnExactSamePlanRow.domain false) (Rows.fnExactSamePlanSpec.post enc Try.prog Try.f11 false true false false) := by
  refine returnsInHanded_of_change (C := Try.checked) fnExactSamePlan_own started (by kernel_rfl) Try.func11
    (ChangeSpec.witness6 (enc := enc) (C := Try.checked) false ⟨#[], #[.agg #[.slice none 0 0, .slice none 0 0, .slice none 0 0, .slice none 0 0, .slice none 0 0, .slice none 0 0, .bool false, .int .i64 0], .agg #[.slice none 0 0, .slice none 0 0, .slice none 0 0, .slice none 0 0, .slice none 0 0, .slice none 0 0, .bool false, .int .i64 0]], []⟩ 8 (by kernel_rfl) (by kernel_rfl) (by kernel_rfl) (by kernel_rfl)) ?_
  intro W base args ds gs before hval0 hW hcnd _
  have hval : ∀ (j : Nat) t v, Try.f11.params[j]? = some t → args[j]? = some v → Value.okWide Try.prog W .any base t v := hval0
  refine law_row (t := 4) [78, 46, 3, 74, 75, 85, 4, 82, 9, 83, 76, 194, 49] hW hval rfl (fun hl => ?_) (by kernel_rfl) Try.underlying4 (by kernel_rfl) (by kernel_rfl) (by kernel_rfl) (fun vs hvs s => ?_)
  · rw [Try.params11] at hl
    match ds, hl with
    | [d0, d1], _ => rfl
  · rw [Try.params11] at hvs
    exact fnExactSamePlan_all vs hvs s

theorem fnExactSamePlan_over : Rows.fnExactSamePlanRow.holds Try.pinned (OpenSpec.ofChange Rows.fnExactSamePlanSpec) :=
  OpenClaim.holds_of_wide 11 Try.f11 rfl rfl rfl rfl rfl rfl rfl ⟨rfl, rfl, rfl, rfl, rfl⟩ rfl rfl rfl rfl rfl (by kernel_rfl) Try.func11 (by kernel_rfl)
    (of_decide_eq_true (by kernel_rfl)) (by unfold Func.isWrapper; first | (rw [if_pos (by decide +kernel)]; kernel_rfl) | (rw [if_neg (by decide +kernel)]; exact ⟨rfl, rfl⟩))
    (fun os started H enc _ => fnExactSamePlan_lifted os started H enc)

/-- The statement. -/
theorem fnExactSamePlan_holds : Rows.FnExactSamePlanSaid := fnExactSamePlan_over
#print axioms fnExactSamePlan_holds
end Go.Proofs.Ytejdgmdebfkkeaa
