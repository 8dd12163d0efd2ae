/-
  'Rows.FnExactUnTypeSaid': the law returns true and each argument reads as before. No conditions of our own.
-/
import Derived.Test.YtkchiflcpecbeaaRows
import Derived.Test.YtkchiflcpecbeaaVRow
import Derived.Test.YtkchiflcpecbeaaDType2
import Derived.WalkKit
import Derived.ProofKit
import Derived.OpenShut
namespace Go.Proofs.Ytkchiflcpecbeaa
open Go Go.ChangeShapes Go.WideShapes Go.ChangeAt Go.RowKit
set_option linter.unusedVariables false

theorem fnExactUnType_own : ownKnob Try.prog.godebug = none := by kernel_rfl

/-- The law at the value level, for all that its arguments may be. -/
theorem fnExactUnType_all (vs : List V) (h : AllHas (fun t v => ∃ n, Has Try.prog n t v) [3, 3] vs) (s : S) : VCalls Try.prog 6 vs s (fun v _ => v = .bool true) := by
  obtain ⟨v0, _, rfl, ⟨n0, h0⟩, v1, _, rfl, ⟨n1, h1⟩, rfl⟩ := h
  obtain ⟨a0, rfl⟩ := Has.int Try.underlying3 h0
  obtain ⟨a1, rfl⟩ := Has.int Try.underlying3 h1
  exact lawUnType_v a0 a1 s

set_option maxRecDepth 100000 in
theorem fnExactUnType_lifted (os : Os) (started : os.Started) (H : Type) (enc : TypeId × Value → H) :
    ReturnsInHanded {} Try.checked os 6 .any (Rows.fnExactUnTypeSpec.pre6 enc Try.prog Try.f6 Rows.fnExactUnTypeRow.domain false) (Rows.fnExactUnTypeSpec.post enc Try.prog Try.f6 false true false false) := by
  refine returnsInHanded_of_change (C := Try.checked) fnExactUnType_own started (by kernel_rfl) Try.func6
    (ChangeSpec.witness6 (enc := enc) (C := Try.checked) false ⟨#[], #[.int .i64 0, .int .i64 0], []⟩ 8 (by kernel_rfl) (by kernel_rfl) (by kernel_rfl) (by kernel_rfl)) ?_
  intro W base args ds gs before hval0 hW hcnd _
  have hval : ∀ (j : Nat) t v, Try.f6.params[j]? = some t → args[j]? = some v → Value.okWide Try.prog W .any base t v := hval0
  refine law_row (t := 4) [3] hW hval rfl (fun hl => ?_) (by kernel_rfl) Try.underlying4 (by kernel_rfl) (by kernel_rfl) (by kernel_rfl) (fun vs hvs s => ?_)
  · rw [Try.params6] at hl
    match ds, hl with
    | [d0, d1], _ => rfl
  · rw [Try.params6] at hvs
    exact fnExactUnType_all vs hvs s

theorem fnExactUnType_over : Rows.fnExactUnTypeRow.holds Try.pinned (OpenSpec.ofChange Rows.fnExactUnTypeSpec) :=
  OpenClaim.holds_of_wide 6 Try.f6 rfl rfl rfl rfl rfl rfl rfl ⟨rfl, rfl, rfl, rfl, rfl⟩ rfl rfl rfl rfl rfl (by kernel_rfl) Try.func6 (by kernel_rfl)
    (of_decide_eq_true (by kernel_rfl)) (by unfold Func.isWrapper; first | (rw [if_pos (by decide +kernel)]; kernel_rfl) | (rw [if_neg (by decide +kernel)]; exact ⟨rfl, rfl⟩))
    (fun os started H enc _ => fnExactUnType_lifted os started H enc)

/-- The statement. -/
theorem fnExactUnType_holds : Rows.FnExactUnTypeSaid := fnExactUnType_over
#print axioms fnExactUnType_holds
end Go.Proofs.Ytkchiflcpecbeaa
