/-
  'Rows.FnExactWellTypedSaid': the law returns true and each argument reads as before. No conditions of our own.
-/
import Derived.Test.YtehmlklfbllgcaaGreatRows
import Derived.Test.YtehmlklfbllgcaaGreatVRow
import Derived.Test.YtehmlklfbllgcaaGreatDTyW
import Derived.WalkKit
import Derived.ProofKit
import Derived.OpenShut
namespace Go.Proofs.YtehmlklfbllgcaaGreat
open Go Go.ChangeShapes Go.WideShapes Go.ChangeAt Go.RowKit
set_option linter.unusedVariables false
set_option linter.unusedSimpArgs false

theorem fnExactWellTyped_own : ownKnob Tryz.prog.godebug = none := by kernel_rfl

/-- The law at the value level, for all that its arguments may be. -/
theorem fnExactWellTyped_all (vs : List V) (h : AllHas (fun t v => ∃ n, Has Tryz.prog n t v) [24, 57] vs) (s : S) : VCalls Tryz.prog 4 vs s (fun v _ => v = .bool true) := by
  obtain ⟨v0, _, rfl, ⟨n0, h0⟩, v1, _, rfl, ⟨n1, h1⟩, rfl⟩ := h
  obtain ⟨a0, e0⟩ := Cat_has h0
  obtain ⟨a1, e1⟩ := Plan_has h1
  refine VCalls.forget ?_
  simp only [List.map_cons, List.map_nil, V.forget, e0, e1]
  exact lawWellTyped_v a0 a1 s

set_option maxRecDepth 100000 in
theorem fnExactWellTyped_lifted (os : Os) (started : os.Started) (H : Type) (enc : TypeId × Value → H) :
    ReturnsInHanded {} Tryz.checked os 4 .any (Rows.fnExactWellTypedSpec.pre6 enc Tryz.prog Tryz.f4 Rows.fnExactWellTypedRow.domain false) (Rows.fnExactWellTypedSpec.post enc Tryz.prog Tryz.f4 false true false false) := by
  refine returnsInHanded_of_change (C := Tryz.checked) fnExactWellTyped_own started (by kernel_rfl) Tryz.func4
    (ChangeSpec.witness6 (enc := enc) (C := Tryz.checked) false ⟨#[], #[.agg #[.slice none 0 0], .agg #[.slice none 0 0, .slice none 0 0, .slice none 0 0, .slice none 0 0, .slice none 0 0, .slice none 0 0, .bool false, .int .i64 0]], []⟩ 8 (by kernel_rfl) (by kernel_rfl) (by kernel_rfl) (by kernel_rfl)) ?_
  intro W base args ds gs before hval0 hW hcnd _
  have hval : ∀ (j : Nat) t v, Tryz.f4.params[j]? = some t → args[j]? = some v → Value.okWide Tryz.prog W .any base t v := hval0
  refine law_row (t := 4) [24, 22, 119, 9, 117, 170, 3, 57, 52, 53, 28, 31, 4, 27, 29, 54, 138, 55] hW hval rfl (fun hl => ?_) (by kernel_rfl) Tryz.underlying4 (by kernel_rfl) (by kernel_rfl) (by kernel_rfl) (fun vs hvs s => ?_)
  · rw [Tryz.params4] at hl
    match ds, hl with
    | [d0, d1], _ => rfl
  · rw [Tryz.params4] at hvs
    exact fnExactWellTyped_all vs hvs s

theorem fnExactWellTyped_over : Rows.fnExactWellTypedRow.holds Tryz.pinned (OpenSpec.ofChange Rows.fnExactWellTypedSpec) :=
  OpenClaim.holds_of_wide 4 Tryz.f4 rfl rfl rfl rfl rfl rfl rfl ⟨rfl, rfl, rfl, rfl, rfl⟩ rfl rfl rfl rfl rfl (by kernel_rfl) Tryz.func4 (by kernel_rfl)
    (of_decide_eq_true (by kernel_rfl)) (by unfold Func.isWrapper; first | (rw [if_pos (by decide +kernel)]; kernel_rfl) | (rw [if_neg (by decide +kernel)]; exact ⟨rfl, rfl⟩))
    (fun os started H enc _ => fnExactWellTyped_lifted os started H enc)

/-- The statement. -/
theorem fnExactWellTyped_holds : Rows.FnExactWellTypedSaid := fnExactWellTyped_over
#print axioms fnExactWellTyped_holds
end Go.Proofs.YtehmlklfbllgcaaGreat
