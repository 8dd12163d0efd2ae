/-
  'Rows.FnExactStarOfSaid': the law returns true and each argument reads as before. No conditions of our own.
-/
import Derived.Test.YtobninmgpbhknaaRows
import Derived.Test.YtobninmgpbhknaaVRow
import Derived.Test.YtobninmgpbhknaaDTypes
import Derived.WalkKit
import Derived.ProofKit
import Derived.OpenShut
namespace Go.Proofs.Ytobninmgpbhknaa
open Go Go.ChangeShapes Go.WideShapes Go.ChangeAt Go.RowKit
set_option linter.unusedVariables false

theorem fnExactStarOf_own : ownKnob Try.prog.godebug = none := by kernel_rfl

/-- The law at the value level, for all that its arguments may be. -/
theorem fnExactStarOf_all (vs : List V) (h : AllHas (fun t v => ∃ n, Has Try.prog n t v) [77, 9] vs) (s : S) : VCalls Try.prog 9 vs s (fun v _ => v = .bool true) := by
  obtain ⟨v0, _, rfl, ⟨n0, h0⟩, v1, _, rfl, ⟨n1, h1⟩, rfl⟩ := h
  obtain ⟨a0, e0⟩ := Scope_has h0
  obtain ⟨a1, rfl⟩ := Has.str Try.underlying9 h1
  refine VCalls.forget ?_
  simp only [List.map_cons, List.map_nil, V.forget, e0]
  exact lawStarOf_v a0 a1 s

set_option maxRecDepth 100000 in
theorem fnExactStarOf_lifted (os : Os) (started : os.Started) (H : Type) (enc : TypeId × Value → H) :
    ReturnsInHanded {} Try.checked os 9 .any (Rows.fnExactStarOfSpec.pre6 enc Try.prog Try.f9 Rows.fnExactStarOfRow.domain false) (Rows.fnExactStarOfSpec.post enc Try.prog Try.f9 false true false false) := by
  refine returnsInHanded_of_change (C := Try.checked) fnExactStarOf_own started (by kernel_rfl) Try.func9
    (ChangeSpec.witness6 (enc := enc) (C := Try.checked) false ⟨#[], #[.agg #[.slice none 0 0], .string ByteArray.empty], []⟩ 8 (by kernel_rfl) (by kernel_rfl) (by kernel_rfl) (by kernel_rfl)) ?_
  intro W base args ds gs before hval0 hW hcnd _
  have hval : ∀ (j : Nat) t v, Try.f9.params[j]? = some t → args[j]? = some v → Value.okWide Try.prog W .any base t v := hval0
  refine law_row (t := 4) [77, 75, 129, 9, 3] hW hval rfl (fun hl => ?_) (by kernel_rfl) Try.underlying4 (by kernel_rfl) (by kernel_rfl) (by kernel_rfl) (fun vs hvs s => ?_)
  · rw [Try.params9] at hl
    match ds, hl with
    | [d0, d1], _ => rfl
  · rw [Try.params9] at hvs
    exact fnExactStarOf_all vs hvs s

theorem fnExactStarOf_over : Rows.fnExactStarOfRow.holds Try.pinned (OpenSpec.ofChange Rows.fnExactStarOfSpec) :=
  OpenClaim.holds_of_wide 9 Try.f9 rfl rfl rfl rfl rfl rfl rfl ⟨rfl, rfl, rfl, rfl, rfl⟩ rfl rfl rfl rfl rfl (by kernel_rfl) Try.func9 (by kernel_rfl)
    (of_decide_eq_true (by kernel_rfl)) (by unfold Func.isWrapper; first | (rw [if_pos (by decide +kernel)]; kernel_rfl) | (rw [if_neg (by decide +kernel)]; exact ⟨rfl, rfl⟩))
    (fun os started H enc _ => fnExactStarOf_lifted os started H enc)

/-- The statement. -/
theorem fnExactStarOf_holds : Rows.FnExactStarOfSaid := fnExactStarOf_over
#print axioms fnExactStarOf_holds
end Go.Proofs.Ytobninmgpbhknaa
