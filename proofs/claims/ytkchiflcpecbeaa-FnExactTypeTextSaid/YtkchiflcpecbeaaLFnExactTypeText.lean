/-
  'Rows.FnExactTypeTextSaid': the law returns true and each argument reads as before. No conditions of our own.
-/
import Derived.Test.YtkchiflcpecbeaaRows
import Derived.Test.YtkchiflcpecbeaaVRow
import Derived.Test.YtkchiflcpecbeaaDTypeText
import Derived.WalkKit
import Derived.ProofKit
import Derived.OpenShut
namespace Go.Proofs.Ytkchiflcpecbeaa
open Go Go.ChangeShapes Go.WideShapes Go.ChangeAt Go.RowKit
set_option linter.unusedVariables false

theorem fnExactTypeText_own : ownKnob Try.prog.godebug = none := by kernel_rfl

/-- The law at the value level, for all that its arguments may be. -/
theorem fnExactTypeText_all (vs : List V) (h : AllHas (fun t v => ∃ n, Has Try.prog n t v) [3] vs) (s : S) : VCalls Try.prog 3 vs s (fun v _ => v = .bool true) := by
  obtain ⟨v0, _, rfl, ⟨n0, h0⟩, rfl⟩ := h
  obtain ⟨a0, rfl⟩ := Has.int Try.underlying3 h0
  exact lawTypeText_v a0 s

set_option maxRecDepth 100000 in
theorem fnExactTypeText_lifted (os : Os) (started : os.Started) (H : Type) (enc : TypeId × Value → H) :
    ReturnsInHanded {} Try.checked os 3 .any (Rows.fnExactTypeTextSpec.pre6 enc Try.prog Try.f3 Rows.fnExactTypeTextRow.domain false) (Rows.fnExactTypeTextSpec.post enc Try.prog Try.f3 false true false false) := by
  refine returnsInHanded_of_change (C := Try.checked) fnExactTypeText_own started (by kernel_rfl) Try.func3
    (ChangeSpec.witness6 (enc := enc) (C := Try.checked) false ⟨#[], #[.int .i64 0], []⟩ 8 (by kernel_rfl) (by kernel_rfl) (by kernel_rfl) (by kernel_rfl)) ?_
  intro W base args ds gs before hval0 hW hcnd _
  have hval : ∀ (j : Nat) t v, Try.f3.params[j]? = some t → args[j]? = some v → Value.okWide Try.prog W .any base t v := hval0
  refine law_row (t := 4) [3] hW hval rfl (fun hl => ?_) (by kernel_rfl) Try.underlying4 (by kernel_rfl) (by kernel_rfl) (by kernel_rfl) (fun vs hvs s => ?_)
  · rw [Try.params3] at hl
    match ds, hl with
    | [d0], _ => rfl
  · rw [Try.params3] at hvs
    exact fnExactTypeText_all vs hvs s

theorem fnExactTypeText_over : Rows.fnExactTypeTextRow.holds Try.pinned (OpenSpec.ofChange Rows.fnExactTypeTextSpec) :=
  OpenClaim.holds_of_wide 3 Try.f3 rfl rfl rfl rfl rfl rfl rfl ⟨rfl, rfl, rfl, rfl, rfl⟩ rfl rfl rfl rfl rfl (by kernel_rfl) Try.func3 (by kernel_rfl)
    (of_decide_eq_true (by kernel_rfl)) (by unfold Func.isWrapper; first | (rw [if_pos (by decide +kernel)]; kernel_rfl) | (rw [if_neg (by decide +kernel)]; exact ⟨rfl, rfl⟩))
    (fun os started H enc _ => fnExactTypeText_lifted os started H enc)

/-- The statement. -/
theorem fnExactTypeText_holds : Rows.FnExactTypeTextSaid := fnExactTypeText_over
#print axioms fnExactTypeText_holds
end Go.Proofs.Ytkchiflcpecbeaa
