/-
  'Rows.FnExactCatalogOkSaid': the law returns true and each argument reads as before. No conditions of our own.
-/
import Derived.Test.YtmcbblcnfdgfmaaRows
import Derived.Test.YtmcbblcnfdgfmaaVRow
import Derived.Test.YtmcbblcnfdgfmaaDCat2
import Derived.WalkKit
import Derived.ProofKit
import Derived.OpenShut
namespace Go.Proofs.Ytmcbblcnfdgfmaa
open Go Go.ChangeShapes Go.WideShapes Go.ChangeAt Go.RowKit
set_option linter.unusedVariables false

theorem fnExactCatalogOk_own : ownKnob Try.prog.godebug = none := by kernel_rfl

/-- The law at the value level, for all that its arguments may be. -/
theorem fnExactCatalogOk_all (vs : List V) (h : AllHas (fun t v => ∃ n, Has Try.prog n t v) [47] vs) (s : S) : VCalls Try.prog 8 vs s (fun v _ => v = .bool true) := by
  obtain ⟨v0, _, rfl, ⟨n0, h0⟩, rfl⟩ := h
  obtain ⟨a0, e0⟩ := Cat_has h0
  refine VCalls.forget ?_
  simp only [List.map_cons, List.map_nil, V.forget, e0]
  exact lawCatalogOk_v a0 s

set_option maxRecDepth 100000 in
theorem fnExactCatalogOk_lifted (os : Os) (started : os.Started) (H : Type) (enc : TypeId × Value → H) :
    ReturnsInHanded {} Try.checked os 8 .any (Rows.fnExactCatalogOkSpec.pre6 enc Try.prog Try.f8 Rows.fnExactCatalogOkRow.domain false) (Rows.fnExactCatalogOkSpec.post enc Try.prog Try.f8 false true false false) := by
  refine returnsInHanded_of_change (C := Try.checked) fnExactCatalogOk_own started (by kernel_rfl) Try.func8
    (ChangeSpec.witness6 (enc := enc) (C := Try.checked) false ⟨#[], #[.agg #[.slice none 0 0]], []⟩ 8 (by kernel_rfl) (by kernel_rfl) (by kernel_rfl) (by kernel_rfl)) ?_
  intro W base args ds gs before hval0 hW hcnd _
  have hval : ∀ (j : Nat) t v, Try.f8.params[j]? = some t → args[j]? = some v → Value.okWide Try.prog W .any base t v := hval0
  refine law_row (t := 4) [47, 45, 24, 9, 22, 162, 3] hW hval rfl (fun hl => ?_) (by kernel_rfl) Try.underlying4 (by kernel_rfl) (by kernel_rfl) (by kernel_rfl) (fun vs hvs s => ?_)
  · rw [Try.params8] at hl
    match ds, hl with
    | [d0], _ => rfl
  · rw [Try.params8] at hvs
    exact fnExactCatalogOk_all vs hvs s

theorem fnExactCatalogOk_over : Rows.fnExactCatalogOkRow.holds Try.pinned (OpenSpec.ofChange Rows.fnExactCatalogOkSpec) :=
  OpenClaim.holds_of_wide 8 Try.f8 rfl rfl rfl rfl rfl rfl rfl ⟨rfl, rfl, rfl, rfl, rfl⟩ rfl rfl rfl rfl rfl (by kernel_rfl) Try.func8 (by kernel_rfl)
    (of_decide_eq_true (by kernel_rfl)) (by unfold Func.isWrapper; first | (rw [if_pos (by decide +kernel)]; kernel_rfl) | (rw [if_neg (by decide +kernel)]; exact ⟨rfl, rfl⟩))
    (fun os started H enc _ => fnExactCatalogOk_lifted os started H enc)

/-- The statement. -/
theorem fnExactCatalogOk_holds : Rows.FnExactCatalogOkSaid := fnExactCatalogOk_over
#print axioms fnExactCatalogOk_holds
end Go.Proofs.Ytmcbblcnfdgfmaa
