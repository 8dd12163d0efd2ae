/-
  'Rows.FnExactEmptyDbSaid': the law returns true and each argument reads as before. No conditions of our own.
-/
import Derived.Test.YtmcbblcnfdgfmaaRows
import Derived.Test.YtmcbblcnfdgfmaaVRow
import Derived.Test.YtmcbblcnfdgfmaaDDb
import Derived.WalkKit
import Derived.ProofKit
import Derived.OpenShut
namespace Go.Proofs.Ytmcbblcnfdgfmaa
open Go Go.ChangeShapes Go.WideShapes Go.ChangeAt Go.RowKit
set_option linter.unusedVariables false
set_option linter.unusedSimpArgs false

theorem fnExactEmptyDb_own : ownKnob Try.prog.godebug = none := by kernel_rfl

/-- The law at the value level, for all that its arguments may be. -/
theorem fnExactEmptyDb_all (vs : List V) (h : AllHas (fun t v => ∃ n, Has Try.prog n t v) [47] vs) (s : S) : VCalls Try.prog 14 vs s (fun v _ => v = .bool true) := by
  obtain ⟨v0, _, rfl, ⟨n0, h0⟩, rfl⟩ := h
  obtain ⟨a0, e0⟩ := Cat_has h0
  refine VCalls.forget ?_
  simp only [List.map_cons, List.map_nil, V.forget, e0]
  exact lawEmptyDb_v a0 s

set_option maxRecDepth 100000 in
theorem fnExactEmptyDb_lifted (os : Os) (started : os.Started) (H : Type) (enc : TypeId × Value → H) :
    ReturnsInHanded {} Try.checked os 14 .any (Rows.fnExactEmptyDbSpec.pre6 enc Try.prog Try.f14 Rows.fnExactEmptyDbRow.domain false) (Rows.fnExactEmptyDbSpec.post enc Try.prog Try.f14 false true false false) := by
  refine returnsInHanded_of_change (C := Try.checked) fnExactEmptyDb_own started (by kernel_rfl) Try.func14
    (ChangeSpec.witness6 (enc := enc) (C := Try.checked) false ⟨#[], #[.agg #[.slice none 0 0]], []⟩ 8 (by kernel_rfl) (by kernel_rfl) (by kernel_rfl) (by kernel_rfl)) ?_
  intro W base args ds gs before hval0 hW hcnd _
  have hval : ∀ (j : Nat) t v, Try.f14.params[j]? = some t → args[j]? = some v → Value.okWide Try.prog W .any base t v := hval0
  refine law_row (t := 4) [47, 45, 24, 9, 22, 162, 3] hW hval rfl (fun hl => ?_) (by kernel_rfl) Try.underlying4 (by kernel_rfl) (by kernel_rfl) (by kernel_rfl) (fun vs hvs s => ?_)
  · rw [Try.params14] at hl
    match ds, hl with
    | [d0], _ => rfl
  · rw [Try.params14] at hvs
    exact fnExactEmptyDb_all vs hvs s

theorem fnExactEmptyDb_over : Rows.fnExactEmptyDbRow.holds Try.pinned (OpenSpec.ofChange Rows.fnExactEmptyDbSpec) :=
  OpenClaim.holds_of_wide 14 Try.f14 rfl rfl rfl rfl rfl rfl rfl ⟨rfl, rfl, rfl, rfl, rfl⟩ rfl rfl rfl rfl rfl (by kernel_rfl) Try.func14 (by kernel_rfl)
    (of_decide_eq_true (by kernel_rfl)) (by unfold Func.isWrapper; first | (rw [if_pos (by decide +kernel)]; kernel_rfl) | (rw [if_neg (by decide +kernel)]; exact ⟨rfl, rfl⟩))
    (fun os started H enc _ => fnExactEmptyDb_lifted os started H enc)

/-- The statement. -/
theorem fnExactEmptyDb_holds : Rows.FnExactEmptyDbSaid := fnExactEmptyDb_over
#print axioms fnExactEmptyDb_holds
end Go.Proofs.Ytmcbblcnfdgfmaa
