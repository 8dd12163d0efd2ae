/-
  'Rows.FnExactScopeOfSaid': the law returns true and each argument reads as before. No conditions of our own.
-/
import Derived.Test.YtoagpmhdgllchaaRows
import Derived.Test.YtoagpmhdgllchaaVRow
import Derived.Test.YtoagpmhdgllchaaDScS
import Derived.WalkKit
import Derived.ProofKit
import Derived.OpenShut
namespace Go.Proofs.Ytoagpmhdgllchaa
open Go Go.ChangeShapes Go.WideShapes Go.ChangeAt Go.RowKit
set_option linter.unusedVariables false
set_option linter.unusedSimpArgs false

theorem fnExactScopeOf_own : ownKnob Try.prog.godebug = none := by kernel_rfl

/-- The law at the value level, for all that its arguments may be. -/
theorem fnExactScopeOf_all (vs : List V) (h : AllHas (fun t v => ∃ n, Has Try.prog n t v) [58, 59] vs) (s : S) : VCalls Try.prog 5 vs s (fun v _ => v = .bool true) := by
  obtain ⟨v0, _, rfl, ⟨n0, h0⟩, v1, _, rfl, ⟨n1, h1⟩, rfl⟩ := h
  obtain ⟨a0, e0⟩ := Cat_has h0
  obtain ⟨a1, e1⟩ := SourceS_has h1
  refine VCalls.forget ?_
  simp only [List.map_cons, List.map_nil, V.forget, e0, e1]
  exact lawScopeOf_v a0 a1 s

set_option maxRecDepth 100000 in
theorem fnExactScopeOf_lifted (os : Os) (started : os.Started) (H : Type) (enc : TypeId × Value → H) :
    ReturnsInHanded {} Try.checked os 5 .any (Rows.fnExactScopeOfSpec.pre6 enc Try.prog Try.f5 Rows.fnExactScopeOfRow.domain false) (Rows.fnExactScopeOfSpec.post enc Try.prog Try.f5 false true false false) := by
  refine returnsInHanded_of_change (C := Try.checked) fnExactScopeOf_own started (by kernel_rfl) Try.func5
    (ChangeSpec.witness6 (enc := enc) (C := Try.checked) false ⟨#[], #[.agg #[.slice none 0 0], .slice none 0 0], []⟩ 8 (by kernel_rfl) (by kernel_rfl) (by kernel_rfl) (by kernel_rfl)) ?_
  intro W base args ds gs before hval0 hW hcnd _
  have hval : ∀ (j : Nat) t v, Try.f5.params[j]? = some t → args[j]? = some v → Value.okWide Try.prog W .any base t v := hval0
  refine law_row (t := 4) [58, 56, 121, 9, 119, 155, 3, 59, 47, 45, 111, 4, 108, 109, 151, 148, 170, 149, 173] hW hval rfl (fun hl => ?_) (by kernel_rfl) Try.underlying4 (by kernel_rfl) (by kernel_rfl) (by kernel_rfl) (fun vs hvs s => ?_)
  · rw [Try.params5] at hl
    match ds, hl with
    | [d0, d1], _ => rfl
  · rw [Try.params5] at hvs
    exact fnExactScopeOf_all vs hvs s

theorem fnExactScopeOf_over : Rows.fnExactScopeOfRow.holds Try.pinned (OpenSpec.ofChange Rows.fnExactScopeOfSpec) :=
  OpenClaim.holds_of_wide 5 Try.f5 rfl rfl rfl rfl rfl rfl rfl ⟨rfl, rfl, rfl, rfl, rfl⟩ rfl rfl rfl rfl rfl (by kernel_rfl) Try.func5 (by kernel_rfl)
    (of_decide_eq_true (by kernel_rfl)) (by unfold Func.isWrapper; first | (rw [if_pos (by decide +kernel)]; kernel_rfl) | (rw [if_neg (by decide +kernel)]; exact ⟨rfl, rfl⟩))
    (fun os started H enc _ => fnExactScopeOf_lifted os started H enc)

/-- The statement. -/
theorem fnExactScopeOf_holds : Rows.FnExactScopeOfSaid := fnExactScopeOf_over
#print axioms fnExactScopeOf_holds
end Go.Proofs.Ytoagpmhdgllchaa
