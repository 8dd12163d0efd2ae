/-
  'Rows.FnExactDistinctRowsSaid': the law returns true and each argument reads as before. No conditions of our own.
-/
import Derived.Test.YtmcbblcnfdgfmaaRows
import Derived.Test.YtmcbblcnfdgfmaaVRow
import Derived.Test.YtmcbblcnfdgfmaaDDist
import Derived.WalkKit
import Derived.ProofKit
import Derived.OpenShut
namespace Go.Proofs.Ytmcbblcnfdgfmaa
open Go Go.ChangeShapes Go.WideShapes Go.ChangeAt Go.RowKit
set_option linter.unusedVariables false
set_option linter.unusedSimpArgs false

theorem fnExactDistinctRows_own : ownKnob Try.prog.godebug = none := by kernel_rfl

/-- The law at the value level, for all that its arguments may be. -/
theorem fnExactDistinctRows_all (vs : List V) (h : AllHas (fun t v => ∃ n, Has Try.prog n t v) [33] vs) (s : S) : VCalls Try.prog 9 vs s (fun v _ => v = .bool true) := by
  obtain ⟨v0, _, rfl, ⟨n0, h0⟩, rfl⟩ := h
  obtain ⟨a0, e0⟩ := ValSS_has h0
  refine VCalls.forget ?_
  simp only [List.map_cons, List.map_nil, V.forget, e0]
  exact lawDistinctRows_v a0 s

set_option maxRecDepth 100000 in
theorem fnExactDistinctRows_lifted (os : Os) (started : os.Started) (H : Type) (enc : TypeId × Value → H) :
    ReturnsInHanded {} Try.checked os 9 .any (Rows.fnExactDistinctRowsSpec.pre6 enc Try.prog Try.f9 Rows.fnExactDistinctRowsRow.domain false) (Rows.fnExactDistinctRowsSpec.post enc Try.prog Try.f9 false true false false) := by
  refine returnsInHanded_of_change (C := Try.checked) fnExactDistinctRows_own started (by kernel_rfl) Try.func9
    (ChangeSpec.witness6 (enc := enc) (C := Try.checked) false ⟨#[], #[.slice none 0 0], []⟩ 8 (by kernel_rfl) (by kernel_rfl) (by kernel_rfl) (by kernel_rfl)) ?_
  intro W base args ds gs before hval0 hW hcnd _
  have hval : ∀ (j : Nat) t v, Try.f9.params[j]? = some t → args[j]? = some v → Value.okWide Try.prog W .any base t v := hval0
  refine law_row (t := 4) [33, 116, 166, 3, 9] hW hval rfl (fun hl => ?_) (by kernel_rfl) Try.underlying4 (by kernel_rfl) (by kernel_rfl) (by kernel_rfl) (fun vs hvs s => ?_)
  · rw [Try.params9] at hl
    match ds, hl with
    | [d0], _ => rfl
  · rw [Try.params9] at hvs
    exact fnExactDistinctRows_all vs hvs s

theorem fnExactDistinctRows_over : Rows.fnExactDistinctRowsRow.holds Try.pinned (OpenSpec.ofChange Rows.fnExactDistinctRowsSpec) :=
  OpenClaim.holds_of_wide 9 Try.f9 rfl rfl rfl rfl rfl rfl rfl ⟨rfl, rfl, rfl, rfl, rfl⟩ rfl rfl rfl rfl rfl (by kernel_rfl) Try.func9 (by kernel_rfl)
    (of_decide_eq_true (by kernel_rfl)) (by unfold Func.isWrapper; first | (rw [if_pos (by decide +kernel)]; kernel_rfl) | (rw [if_neg (by decide +kernel)]; exact ⟨rfl, rfl⟩))
    (fun os started H enc _ => fnExactDistinctRows_lifted os started H enc)

/-- The statement. -/
theorem fnExactDistinctRows_holds : Rows.FnExactDistinctRowsSaid := fnExactDistinctRows_over
#print axioms fnExactDistinctRows_holds
end Go.Proofs.Ytmcbblcnfdgfmaa
