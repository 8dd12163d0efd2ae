/-
  'Rows.FnScopeSaid': the law returns true and each argument reads as before. No conditions of our own.
-/
import Derived.Test.YtoagpmhdgllchaaRows
import Derived.Test.YtoagpmhdgllchaaVRow
import Derived.Test.YtoagpmhdgllchaaDScL
import Derived.WalkKit
import Derived.ProofKit
import Derived.OpenShut
namespace Go.Proofs.Ytoagpmhdgllchaa
open Go Go.ChangeShapes Go.WideShapes Go.ChangeAt Go.RowKit
set_option linter.unusedVariables false
set_option linter.unusedSimpArgs false

theorem fnScope_own : ownKnob Try.prog.godebug = none := by kernel_rfl

/-- The law at the value level, for all that its arguments may be. -/
theorem fnScope_all (vs : List V) (h : AllHas (fun t v => ∃ n, Has Try.prog n t v) [22] vs) (s : S) : VCalls Try.prog 3 vs s (fun v _ => v = .bool true) := by
  refine VCalls.wf fun hw => ?_
  obtain ⟨v, _, rfl, ⟨n, h⟩, rfl⟩ := h
  simp only [List.all_cons, List.all_nil, Bool.and_true] at hw
  exact lawScopeL_v (bytes_has Try.underlying22 Try.underlying5 h hw) s

set_option maxRecDepth 100000 in
theorem fnScope_lifted (os : Os) (started : os.Started) (H : Type) (enc : TypeId × Value → H) :
    ReturnsInHanded {} Try.checked os 3 .any (Rows.fnScopeSpec.pre6 enc Try.prog Try.f3 Rows.fnScopeRow.domain false) (Rows.fnScopeSpec.post enc Try.prog Try.f3 false true false false) := by
  refine returnsInHanded_of_change (C := Try.checked) fnScope_own started (by kernel_rfl) Try.func3
    (ChangeSpec.witness6 (enc := enc) (C := Try.checked) false ⟨#[], #[.slice none 0 0], []⟩ 8 (by kernel_rfl) (by kernel_rfl) (by kernel_rfl) (by kernel_rfl)) ?_
  intro W base args ds gs before hval0 hW hcnd _
  have hval : ∀ (j : Nat) t v, Try.f3.params[j]? = some t → args[j]? = some v → Value.okWide Try.prog W .any base t v := hval0
  refine law_row (t := 4) [22, 5] hW hval rfl (fun hl => ?_) (by kernel_rfl) Try.underlying4 (by kernel_rfl) (by kernel_rfl) (by kernel_rfl) (fun vs hvs s => ?_)
  · rw [Try.params3] at hl
    match ds, hl with
    | [d0], _ => rfl
  · rw [Try.params3] at hvs
    exact fnScope_all vs hvs s

theorem fnScope_over : Rows.fnScopeRow.holds Try.pinned (OpenSpec.ofChange Rows.fnScopeSpec) :=
  OpenClaim.holds_of_wide 3 Try.f3 rfl rfl rfl rfl rfl rfl rfl ⟨rfl, rfl, rfl, rfl, rfl⟩ rfl rfl rfl rfl rfl (by kernel_rfl) Try.func3 (by kernel_rfl)
    (of_decide_eq_true (by kernel_rfl)) (by unfold Func.isWrapper; first | (rw [if_pos (by decide +kernel)]; kernel_rfl) | (rw [if_neg (by decide +kernel)]; exact ⟨rfl, rfl⟩))
    (fun os started H enc _ => fnScope_lifted os started H enc)

/-- The statement. -/
theorem fnScope_holds : Rows.FnScopeSaid := fnScope_over
#print axioms fnScope_holds
end Go.Proofs.Ytoagpmhdgllchaa
