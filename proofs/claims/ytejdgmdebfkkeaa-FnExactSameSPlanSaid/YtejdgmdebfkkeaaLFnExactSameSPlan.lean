/-
  'Rows.FnExactSameSPlanSaid': the law returns true and each argument reads as before. No conditions of our own.
-/
import Derived.Test.YtejdgmdebfkkeaaRows
import Derived.Test.YtejdgmdebfkkeaaVRow
import Derived.Test.YtejdgmdebfkkeaaDSPlan
import Derived.WalkKit
import Derived.ProofKit
import Derived.OpenShut
namespace Go.Proofs.Ytejdgmdebfkkeaa
open Go Go.ChangeShapes Go.WideShapes Go.ChangeAt Go.RowKit
set_option linter.unusedVariables false
set_option linter.unusedSimpArgs false

theorem fnExactSameSPlan_own : ownKnob Try.prog.godebug = none := by kernel_rfl

/-- The law at the value level, for all that its arguments may be. -/
theorem fnExactSameSPlan_all (vs : List V) (h : AllHas (fun t v => ∃ n, Has Try.prog n t v) [91, 91] vs) (s : S) : VCalls Try.prog 12 vs s (fun v _ => v = .bool true) := by
  obtain ⟨v0, _, rfl, ⟨n0, h0⟩, v1, _, rfl, ⟨n1, h1⟩, rfl⟩ := h
  obtain ⟨a0, e0⟩ := SPlan_has h0
  obtain ⟨a1, e1⟩ := SPlan_has h1
  refine VCalls.forget ?_
  simp only [List.map_cons, List.map_nil, V.forget, e0, e1]
  exact lawSameSPlan_v a0 a1 s

set_option maxRecDepth 100000 in
theorem fnExactSameSPlan_lifted (os : Os) (started : os.Started) (H : Type) (enc : TypeId × Value → H) :
    ReturnsInHanded {} Try.checked os 12 .any (Rows.fnExactSameSPlanSpec.pre6 enc Try.prog Try.f12 Rows.fnExactSameSPlanRow.domain false) (Rows.fnExactSameSPlanSpec.post enc Try.prog Try.f12 false true false false) := by
  refine returnsInHanded_of_change (C := Try.checked) fnExactSameSPlan_own started (by kernel_rfl) Try.func12
    (ChangeSpec.witness6 (enc := enc) (C := Try.checked) false ⟨#[], #[.agg #[.int .i64 0, .slice none 0 0, .slice none 0 0, .slice none 0 0, .slice none 0 0, .slice none 0 0, .slice none 0 0, .bool false, .int .i64 0, .int .i64 0, .slice none 0 0, .slice none 0 0, .slice none 0 0, .slice none 0 0], .agg #[.int .i64 0, .slice none 0 0, .slice none 0 0, .slice none 0 0, .slice none 0 0, .slice none 0 0, .slice none 0 0, .bool false, .int .i64 0, .int .i64 0, .slice none 0 0, .slice none 0 0, .slice none 0 0, .slice none 0 0]], []⟩ 8 (by kernel_rfl) (by kernel_rfl) (by kernel_rfl) (by kernel_rfl)) ?_
  intro W base args ds gs before hval0 hW hcnd _
  have hval : ∀ (j : Nat) t v, Try.f12.params[j]? = some t → args[j]? = some v → Value.okWide Try.prog W .any base t v := hval0
  refine law_row (t := 4) [91, 3, 78, 46, 74, 75, 85, 4, 82, 9, 83, 76, 194, 49] hW hval rfl (fun hl => ?_) (by kernel_rfl) Try.underlying4 (by kernel_rfl) (by kernel_rfl) (by kernel_rfl) (fun vs hvs s => ?_)
  · rw [Try.params12] at hl
    match ds, hl with
    | [d0, d1], _ => rfl
  · rw [Try.params12] at hvs
    exact fnExactSameSPlan_all vs hvs s

theorem fnExactSameSPlan_over : Rows.fnExactSameSPlanRow.holds Try.pinned (OpenSpec.ofChange Rows.fnExactSameSPlanSpec) :=
  OpenClaim.holds_of_wide 12 Try.f12 rfl rfl rfl rfl rfl rfl rfl ⟨rfl, rfl, rfl, rfl, rfl⟩ rfl rfl rfl rfl rfl (by kernel_rfl) Try.func12 (by kernel_rfl)
    (of_decide_eq_true (by kernel_rfl)) (by unfold Func.isWrapper; first | (rw [if_pos (by decide +kernel)]; kernel_rfl) | (rw [if_neg (by decide +kernel)]; exact ⟨rfl, rfl⟩))
    (fun os started H enc _ => fnExactSameSPlan_lifted os started H enc)

/-- The statement. -/
theorem fnExactSameSPlan_holds : Rows.FnExactSameSPlanSaid := fnExactSameSPlan_over
#print axioms fnExactSameSPlan_holds
end Go.Proofs.Ytejdgmdebfkkeaa
