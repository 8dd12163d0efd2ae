/-
  'Rows.FnExactPlanTypesSaid': the law returns true and each argument reads as before. No conditions of our own.
-/
import Derived.Test.YtehmlklfbllgcaaGreatRows
import Derived.Test.YtehmlklfbllgcaaGreatVRow
import Derived.Test.YtehmlklfbllgcaaGreatDTyP
import Derived.WalkKit
import Derived.ProofKit
import Derived.OpenShut
namespace Go.Proofs.YtehmlklfbllgcaaGreat
open Go Go.ChangeShapes Go.WideShapes Go.ChangeAt Go.RowKit
set_option linter.unusedVariables false
set_option linter.unusedSimpArgs false

theorem fnExactPlanTypes_own : ownKnob Tryz.prog.godebug = none := by kernel_rfl

/-- The law at the value level, for all that its arguments may be. -/
theorem fnExactPlanTypes_all (vs : List V) (h : AllHas (fun t v => ∃ n, Has Tryz.prog n t v) [24, 25, 57] vs) (s : S) : VCalls Tryz.prog 5 vs s (fun v _ => v = .bool true) := by
  obtain ⟨v0, _, rfl, ⟨n0, h0⟩, v1, _, rfl, ⟨n1, h1⟩, v2, _, rfl, ⟨n2, h2⟩, rfl⟩ := h
  obtain ⟨a0, e0⟩ := Cat_has h0
  obtain ⟨a1, e1⟩ := intSS_has h1
  obtain ⟨a2, e2⟩ := Plan_has h2
  refine VCalls.forget ?_
  simp only [List.map_cons, List.map_nil, V.forget, e0, e1, e2]
  exact lawPlanTypes_v a0 a1 a2 s

set_option maxRecDepth 100000 in
theorem fnExactPlanTypes_lifted (os : Os) (started : os.Started) (H : Type) (enc : TypeId × Value → H) :
    ReturnsInHanded {} Tryz.checked os 5 .any (Rows.fnExactPlanTypesSpec.pre6 enc Tryz.prog Tryz.f5 Rows.fnExactPlanTypesRow.domain false) (Rows.fnExactPlanTypesSpec.post enc Tryz.prog Tryz.f5 false true false false) := by
  refine returnsInHanded_of_change (C := Tryz.checked) fnExactPlanTypes_own started (by kernel_rfl) Tryz.func5
    (ChangeSpec.witness6 (enc := enc) (C := Tryz.checked) false ⟨#[], #[.agg #[.slice none 0 0], .slice none 0 0, .agg #[.slice none 0 0, .slice none 0 0, .slice none 0 0, .slice none 0 0, .slice none 0 0, .slice none 0 0, .bool false, .int .i64 0]], []⟩ 8 (by kernel_rfl) (by kernel_rfl) (by kernel_rfl) (by kernel_rfl)) ?_
  intro W base args ds gs before hval0 hW hcnd _
  have hval : ∀ (j : Nat) t v, Tryz.f5.params[j]? = some t → args[j]? = some v → Value.okWide Tryz.prog W .any base t v := hval0
  refine law_row (t := 4) [24, 22, 119, 9, 117, 170, 3, 25, 52, 57, 53, 28, 31, 4, 27, 29, 54, 138, 55] hW hval rfl (fun hl => ?_) (by kernel_rfl) Tryz.underlying4 (by kernel_rfl) (by kernel_rfl) (by kernel_rfl) (fun vs hvs s => ?_)
  · rw [Tryz.params5] at hl
    match ds, hl with
    | [d0, d1, d2], _ => rfl
  · rw [Tryz.params5] at hvs
    exact fnExactPlanTypes_all vs hvs s

theorem fnExactPlanTypes_over : Rows.fnExactPlanTypesRow.holds Tryz.pinned (OpenSpec.ofChange Rows.fnExactPlanTypesSpec) :=
  OpenClaim.holds_of_wide 5 Tryz.f5 rfl rfl rfl rfl rfl rfl rfl ⟨rfl, rfl, rfl, rfl, rfl⟩ rfl rfl rfl rfl rfl (by kernel_rfl) Tryz.func5 (by kernel_rfl)
    (of_decide_eq_true (by kernel_rfl)) (by unfold Func.isWrapper; first | (rw [if_pos (by decide +kernel)]; kernel_rfl) | (rw [if_neg (by decide +kernel)]; exact ⟨rfl, rfl⟩))
    (fun os started H enc _ => fnExactPlanTypes_lifted os started H enc)

/-- The statement. -/
theorem fnExactPlanTypes_holds : Rows.FnExactPlanTypesSaid := fnExactPlanTypes_over
#print axioms fnExactPlanTypes_holds
end Go.Proofs.YtehmlklfbllgcaaGreat
