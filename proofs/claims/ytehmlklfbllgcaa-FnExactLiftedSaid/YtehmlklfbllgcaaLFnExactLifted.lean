/-
  'Rows.FnExactLiftedSaid': the law returns true and each argument reads as before. No conditions of our own.
-/
import Derived.Test.YtehmlklfbllgcaaRows
import Derived.Test.YtehmlklfbllgcaaVRow
import Derived.Test.YtehmlklfbllgcaaDLiftL
import Derived.WalkKit
import Derived.ProofKit
import Derived.OpenShut
namespace Go.Proofs.Ytehmlklfbllgcaa
open Go Go.ChangeShapes Go.WideShapes Go.ChangeAt Go.RowKit
set_option linter.unusedVariables false
set_option linter.unusedSimpArgs false

theorem fnExactLifted_own : ownKnob Try.prog.godebug = none := by kernel_rfl

/-- The law at the value level, for all that its arguments may be. -/
theorem fnExactLifted_all (vs : List V) (h : AllHas (fun t v => ∃ n, Has Try.prog n t v) [77, 3] vs) (s : S) : VCalls Try.prog 10 vs s (fun v _ => v = .bool true) := by
  obtain ⟨v0, _, rfl, ⟨n0, h0⟩, v1, _, rfl, ⟨n1, h1⟩, rfl⟩ := h
  obtain ⟨a0, e0⟩ := PExpr_has h0
  obtain ⟨a1, rfl⟩ := Has.int Try.underlying3 h1
  refine VCalls.forget ?_
  simp only [List.map_cons, List.map_nil, V.forget, e0]
  exact lawLifted_v a0 a1 s

set_option maxRecDepth 100000 in
theorem fnExactLifted_lifted (os : Os) (started : os.Started) (H : Type) (enc : TypeId × Value → H) :
    ReturnsInHanded {} Try.checked os 10 .any (Rows.fnExactLiftedSpec.pre6 enc Try.prog Try.f10 Rows.fnExactLiftedRow.domain false) (Rows.fnExactLiftedSpec.post enc Try.prog Try.f10 false true false false) := by
  refine returnsInHanded_of_change (C := Try.checked) fnExactLifted_own started (by kernel_rfl) Try.func10
    (ChangeSpec.witness6 (enc := enc) (C := Try.checked) false ⟨#[], #[.agg #[.int .i64 0, .int .i64 0, .bool false, .int .i64 0, .int .i64 0, .string ByteArray.empty, .int .i64 0, .int .i64 0, .slice none 0 0, .slice none 0 0], .int .i64 0], []⟩ 8 (by kernel_rfl) (by kernel_rfl) (by kernel_rfl) (by kernel_rfl)) ?_
  intro W base args ds gs before hval0 hW hcnd _
  have hval : ∀ (j : Nat) t v, Try.f10.params[j]? = some t → args[j]? = some v → Value.okWide Try.prog W .any base t v := hval0
  refine law_row (t := 4) [77, 3, 4, 74, 9, 55, 75, 59, 32, 54, 56, 162, 57] hW hval rfl (fun hl => ?_) (by kernel_rfl) Try.underlying4 (by kernel_rfl) (by kernel_rfl) (by kernel_rfl) (fun vs hvs s => ?_)
  · rw [Try.params10] at hl
    match ds, hl with
    | [d0, d1], _ => rfl
  · rw [Try.params10] at hvs
    exact fnExactLifted_all vs hvs s

theorem fnExactLifted_over : Rows.fnExactLiftedRow.holds Try.pinned (OpenSpec.ofChange Rows.fnExactLiftedSpec) :=
  OpenClaim.holds_of_wide 10 Try.f10 rfl rfl rfl rfl rfl rfl rfl ⟨rfl, rfl, rfl, rfl, rfl⟩ rfl rfl rfl rfl rfl (by kernel_rfl) Try.func10 (by kernel_rfl)
    (of_decide_eq_true (by kernel_rfl)) (by unfold Func.isWrapper; first | (rw [if_pos (by decide +kernel)]; kernel_rfl) | (rw [if_neg (by decide +kernel)]; exact ⟨rfl, rfl⟩))
    (fun os started H enc _ => fnExactLifted_lifted os started H enc)

/-- The statement. -/
theorem fnExactLifted_holds : Rows.FnExactLiftedSaid := fnExactLifted_over
#print axioms fnExactLifted_holds
end Go.Proofs.Ytehmlklfbllgcaa
