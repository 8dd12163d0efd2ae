/-
  'Rows.FnExactAliasOfSaid': the law returns true and each argument reads as before. No conditions of our own.
-/
import Derived.Test.YtoagpmhdgllchaaRows
import Derived.Test.YtoagpmhdgllchaaVRow
import Derived.Test.YtoagpmhdgllchaaDAliasL
import Derived.WalkKit
import Derived.ProofKit
import Derived.OpenShut
namespace Go.Proofs.Ytoagpmhdgllchaa
open Go Go.ChangeShapes Go.WideShapes Go.ChangeAt Go.RowKit
set_option linter.unusedVariables false
set_option linter.unusedSimpArgs false

theorem fnExactAliasOf_own : ownKnob Try.prog.godebug = none := by kernel_rfl

/-- The law at the value level, for all that its arguments may be. -/
theorem fnExactAliasOf_all (vs : List V) (h : AllHas (fun t v => ∃ n, Has Try.prog n t v) [47] vs) (s : S) : VCalls Try.prog 4 vs s (fun v _ => v = .bool true) := by
  obtain ⟨v0, _, rfl, ⟨n0, h0⟩, rfl⟩ := h
  obtain ⟨a0, e0⟩ := Source_has h0
  refine VCalls.forget ?_
  simp only [List.map_cons, List.map_nil, V.forget, e0]
  exact lawAliasOf_v a0 s

set_option maxRecDepth 100000 in
theorem fnExactAliasOf_lifted (os : Os) (started : os.Started) (H : Type) (enc : TypeId × Value → H) :
    ReturnsInHanded {} Try.checked os 4 .any (Rows.fnExactAliasOfSpec.pre6 enc Try.prog Try.f4 Rows.fnExactAliasOfRow.domain false) (Rows.fnExactAliasOfSpec.post enc Try.prog Try.f4 false true false false) := by
  refine returnsInHanded_of_change (C := Try.checked) fnExactAliasOf_own started (by kernel_rfl) Try.func4
    (ChangeSpec.witness6 (enc := enc) (C := Try.checked) false ⟨#[], #[.agg #[.string ByteArray.empty, .string ByteArray.empty, .slice none 0 0]], []⟩ 8 (by kernel_rfl) (by kernel_rfl) (by kernel_rfl) (by kernel_rfl)) ?_
  intro W base args ds gs before hval0 hW hcnd _
  have hval : ∀ (j : Nat) t v, Try.f4.params[j]? = some t → args[j]? = some v → Value.okWide Try.prog W .any base t v := hval0
  refine law_row (t := 4) [47, 9, 45, 111, 3, 4, 108, 109, 151, 148, 170, 59, 149, 173] hW hval rfl (fun hl => ?_) (by kernel_rfl) Try.underlying4 (by kernel_rfl) (by kernel_rfl) (by kernel_rfl) (fun vs hvs s => ?_)
  · rw [Try.params4] at hl
    match ds, hl with
    | [d0], _ => rfl
  · rw [Try.params4] at hvs
    exact fnExactAliasOf_all vs hvs s

theorem fnExactAliasOf_over : Rows.fnExactAliasOfRow.holds Try.pinned (OpenSpec.ofChange Rows.fnExactAliasOfSpec) :=
  OpenClaim.holds_of_wide 4 Try.f4 rfl rfl rfl rfl rfl rfl rfl ⟨rfl, rfl, rfl, rfl, rfl⟩ rfl rfl rfl rfl rfl (by kernel_rfl) Try.func4 (by kernel_rfl)
    (of_decide_eq_true (by kernel_rfl)) (by unfold Func.isWrapper; first | (rw [if_pos (by decide +kernel)]; kernel_rfl) | (rw [if_neg (by decide +kernel)]; exact ⟨rfl, rfl⟩))
    (fun os started H enc _ => fnExactAliasOf_lifted os started H enc)

/-- The statement. -/
theorem fnExactAliasOf_holds : Rows.FnExactAliasOfSaid := fnExactAliasOf_over
#print axioms fnExactAliasOf_holds
end Go.Proofs.Ytoagpmhdgllchaa
