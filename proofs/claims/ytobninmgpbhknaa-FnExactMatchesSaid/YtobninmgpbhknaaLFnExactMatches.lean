/-
  'Rows.FnExactMatchesSaid': the law returns true and each argument reads as before. No conditions of our own.
-/
import Derived.Test.YtobninmgpbhknaaRows
import Derived.Test.YtobninmgpbhknaaVRow
import Derived.Test.YtobninmgpbhknaaDTypes
import Derived.WalkKit
import Derived.ProofKit
import Derived.OpenShut
namespace Go.Proofs.Ytobninmgpbhknaa
open Go Go.ChangeShapes Go.WideShapes Go.ChangeAt Go.RowKit
set_option linter.unusedVariables false

theorem fnExactMatches_own : ownKnob Try.prog.godebug = none := by kernel_rfl

/-- The law at the value level, for all that its arguments may be. -/
theorem fnExactMatches_all (vs : List V) (h : AllHas (fun t v => ∃ n, Has Try.prog n t v) [77, 9, 9] vs) (s : S) : VCalls Try.prog 8 vs s (fun v _ => v = .bool true) := by
  obtain ⟨v0, _, rfl, ⟨n0, h0⟩, v1, _, rfl, ⟨n1, h1⟩, v2, _, rfl, ⟨n2, h2⟩, rfl⟩ := h
  obtain ⟨a0, e0⟩ := Scope_has h0
  obtain ⟨a1, rfl⟩ := Has.str Try.underlying9 h1
  obtain ⟨a2, rfl⟩ := Has.str Try.underlying9 h2
  refine VCalls.forget ?_
  simp only [List.map_cons, List.map_nil, V.forget, e0]
  exact lawMatches_v a0 a1 a2 s

set_option maxRecDepth 100000 in
theorem fnExactMatches_lifted (os : Os) (started : os.Started) (H : Type) (enc : TypeId × Value → H) :
    ReturnsInHanded {} Try.checked os 8 .any (Rows.fnExactMatchesSpec.pre6 enc Try.prog Try.f8 Rows.fnExactMatchesRow.domain false) (Rows.fnExactMatchesSpec.post enc Try.prog Try.f8 false true false false) := by
  refine returnsInHanded_of_change (C := Try.checked) fnExactMatches_own started (by kernel_rfl) Try.func8
    (ChangeSpec.witness6 (enc := enc) (C := Try.checked) false ⟨#[], #[.agg #[.slice none 0 0], .string ByteArray.empty, .string ByteArray.empty], []⟩ 8 (by kernel_rfl) (by kernel_rfl) (by kernel_rfl) (by kernel_rfl)) ?_
  intro W base args ds gs before hval0 hW hcnd _
  have hval : ∀ (j : Nat) t v, Try.f8.params[j]? = some t → args[j]? = some v → Value.okWide Try.prog W .any base t v := hval0
  refine law_row (t := 4) [77, 75, 129, 9, 3] hW hval rfl (fun hl => ?_) (by kernel_rfl) Try.underlying4 (by kernel_rfl) (by kernel_rfl) (by kernel_rfl) (fun vs hvs s => ?_)
  · rw [Try.params8] at hl
    match ds, hl with
    | [d0, d1, d2], _ => rfl
  · rw [Try.params8] at hvs
    exact fnExactMatches_all vs hvs s

theorem fnExactMatches_over : Rows.fnExactMatchesRow.holds Try.pinned (OpenSpec.ofChange Rows.fnExactMatchesSpec) :=
  OpenClaim.holds_of_wide 8 Try.f8 rfl rfl rfl rfl rfl rfl rfl ⟨rfl, rfl, rfl, rfl, rfl⟩ rfl rfl rfl rfl rfl (by kernel_rfl) Try.func8 (by kernel_rfl)
    (of_decide_eq_true (by kernel_rfl)) (by unfold Func.isWrapper; first | (rw [if_pos (by decide +kernel)]; kernel_rfl) | (rw [if_neg (by decide +kernel)]; exact ⟨rfl, rfl⟩))
    (fun os started H enc _ => fnExactMatches_lifted os started H enc)

/-- The statement. -/
theorem fnExactMatches_holds : Rows.FnExactMatchesSaid := fnExactMatches_over
#print axioms fnExactMatches_holds
end Go.Proofs.Ytobninmgpbhknaa
