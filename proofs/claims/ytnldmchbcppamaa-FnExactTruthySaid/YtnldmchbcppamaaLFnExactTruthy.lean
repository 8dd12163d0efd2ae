/-
  'Rows.FnExactTruthySaid': the law returns true and each argument reads as before. No conditions of our own.
-/
import Derived.Test.YtnldmchbcppamaaRows
import Derived.Test.YtnldmchbcppamaaVRow
import Derived.Test.YtnldmchbcppamaaDTruthy
import Derived.WalkKit
import Derived.ProofKit
import Derived.OpenShut
namespace Go.Proofs.Ytnldmchbcppamaa
open Go Go.ChangeShapes Go.WideShapes Go.ChangeAt Go.RowKit
set_option linter.unusedVariables false

theorem fnExactTruthy_own : ownKnob Try.prog.godebug = none := by kernel_rfl

/-- The law at the value level, for all that its arguments may be. -/
theorem fnExactTruthy_all (vs : List V) (h : AllHas (fun t v => ∃ n, Has Try.prog n t v) [3] vs) (s : S) : VCalls Try.prog 3 vs s (fun v _ => v = .bool true) := by
  obtain ⟨v, _, rfl, ⟨n, h⟩, rfl⟩ := h
  obtain ⟨m, rfl⟩ := Has.int Try.underlying3 h
  exact lawTruthy_v m s

set_option maxRecDepth 100000 in
theorem fnExactTruthy_lifted (os : Os) (started : os.Started) (H : Type) (enc : TypeId × Value → H) :
    ReturnsInHanded {} Try.checked os 3 .any (Rows.fnExactTruthySpec.pre6 enc Try.prog Try.f3 Rows.fnExactTruthyRow.domain false) (Rows.fnExactTruthySpec.post enc Try.prog Try.f3 false true false false) := by
  refine returnsInHanded_of_change (C := Try.checked) fnExactTruthy_own started (by kernel_rfl) Try.func3
    (ChangeSpec.witness6 (enc := enc) (C := Try.checked) false ⟨#[], #[.int .i64 0], []⟩ 8 (by kernel_rfl) (by kernel_rfl) (by kernel_rfl) (by kernel_rfl)) ?_
  intro W base args ds gs before hval0 hW hcnd _
  have hval : ∀ (j : Nat) t v, Try.f3.params[j]? = some t → args[j]? = some v → Value.okWide Try.prog W .any base t v := hval0
  refine law_row (t := 4) [3] hW hval rfl (fun hl => ?_) (by kernel_rfl) Try.underlying4 (by kernel_rfl) (by kernel_rfl) (by kernel_rfl) (fun vs hvs s => ?_)
  · rw [Try.params3] at hl
    match ds, hl with
    | [d0], _ => rfl
  · rw [Try.params3] at hvs
    exact fnExactTruthy_all vs hvs s

theorem fnExactTruthy_over : Rows.fnExactTruthyRow.holds Try.pinned (OpenSpec.ofChange Rows.fnExactTruthySpec) :=
  OpenClaim.holds_of_wide 3 Try.f3 rfl rfl rfl rfl rfl rfl rfl ⟨rfl, rfl, rfl, rfl, rfl⟩ rfl rfl rfl rfl rfl (by kernel_rfl) Try.func3 (by kernel_rfl)
    (of_decide_eq_true (by kernel_rfl)) (by unfold Func.isWrapper; first | (rw [if_pos (by decide +kernel)]; kernel_rfl) | (rw [if_neg (by decide +kernel)]; exact ⟨rfl, rfl⟩))
    (fun os started H enc _ => fnExactTruthy_lifted os started H enc)

/-- The statement. -/
theorem fnExactTruthy_holds : Rows.FnExactTruthySaid := fnExactTruthy_over
#print axioms fnExactTruthy_holds
end Go.Proofs.Ytnldmchbcppamaa
