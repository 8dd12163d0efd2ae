/-
  'Rows.FnExactTypesOfSaid': the law returns true and each argument reads as before. No conditions of our own.
-/
import Derived.Test.YtobninmgpbhknaaRows
import Derived.Test.YtobninmgpbhknaaVRow
import Derived.Test.YtobninmgpbhknaaDTypes
import Derived.WalkKit
import Derived.ProofKit
import Derived.OpenShut
namespace Go.Proofs.Ytobninmgpbhknaa
open Go Go.ChangeShapes Go.WideShapes Go.ChangeAt Go.RowKit
set_option linter.unusedVariables false

theorem fnExactTypesOf_own : ownKnob Try.prog.godebug = none := by kernel_rfl

/-- The law at the value level, for all that its arguments may be. -/
theorem fnExactTypesOf_all (vs : List V) (h : AllHas (fun t v => ∃ n, Has Try.prog n t v) [53] vs) (s : S) : VCalls Try.prog 6 vs s (fun v _ => v = .bool true) := by
  obtain ⟨v0, _, rfl, ⟨n0, h0⟩, rfl⟩ := h
  obtain ⟨a0, e0⟩ := Tab_has h0
  refine VCalls.forget ?_
  simp only [List.map_cons, List.map_nil, V.forget, e0]
  exact lawTypesOf_v a0 s

set_option maxRecDepth 100000 in
theorem fnExactTypesOf_lifted (os : Os) (started : os.Started) (H : Type) (enc : TypeId × Value → H) :
    ReturnsInHanded {} Try.checked os 6 .any (Rows.fnExactTypesOfSpec.pre6 enc Try.prog Try.f6 Rows.fnExactTypesOfRow.domain false) (Rows.fnExactTypesOfSpec.post enc Try.prog Try.f6 false true false false) := by
  refine returnsInHanded_of_change (C := Try.checked) fnExactTypesOf_own started (by kernel_rfl) Try.func6
    (ChangeSpec.witness6 (enc := enc) (C := Try.checked) false ⟨#[], #[.agg #[.string ByteArray.empty, .slice none 0 0]], []⟩ 8 (by kernel_rfl) (by kernel_rfl) (by kernel_rfl) (by kernel_rfl)) ?_
  intro W base args ds gs before hval0 hW hcnd _
  have hval : ∀ (j : Nat) t v, Try.f6.params[j]? = some t → args[j]? = some v → Value.okWide Try.prog W .any base t v := hval0
  refine law_row (t := 4) [53, 9, 51, 124, 3] hW hval rfl (fun hl => ?_) (by kernel_rfl) Try.underlying4 (by kernel_rfl) (by kernel_rfl) (by kernel_rfl) (fun vs hvs s => ?_)
  · rw [Try.params6] at hl
    match ds, hl with
    | [d0], _ => rfl
  · rw [Try.params6] at hvs
    exact fnExactTypesOf_all vs hvs s

theorem fnExactTypesOf_over : Rows.fnExactTypesOfRow.holds Try.pinned (OpenSpec.ofChange Rows.fnExactTypesOfSpec) :=
  OpenClaim.holds_of_wide 6 Try.f6 rfl rfl rfl rfl rfl rfl rfl ⟨rfl, rfl, rfl, rfl, rfl⟩ rfl rfl rfl rfl rfl (by kernel_rfl) Try.func6 (by kernel_rfl)
    (of_decide_eq_true (by kernel_rfl)) (by unfold Func.isWrapper; first | (rw [if_pos (by decide +kernel)]; kernel_rfl) | (rw [if_neg (by decide +kernel)]; exact ⟨rfl, rfl⟩))
    (fun os started H enc _ => fnExactTypesOf_lifted os started H enc)

/-- The statement. -/
theorem fnExactTypesOf_holds : Rows.FnExactTypesOfSaid := fnExactTypesOf_over
#print axioms fnExactTypesOf_holds
end Go.Proofs.Ytobninmgpbhknaa
