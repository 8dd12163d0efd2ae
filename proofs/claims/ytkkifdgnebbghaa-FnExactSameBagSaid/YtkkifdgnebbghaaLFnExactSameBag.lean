/-
  'Rows.FnExactSameBagSaid': the law returns true and each argument reads as before. No conditions of our own.
-/
import Derived.Test.YtkkifdgnebbghaaRows
import Derived.Test.YtkkifdgnebbghaaVRow
import Derived.Test.YtkkifdgnebbghaaDStabL
import Derived.WalkKit
import Derived.ProofKit
import Derived.OpenShut
namespace Go.Proofs.Ytkkifdgnebbghaa
open Go Go.ChangeShapes Go.WideShapes Go.ChangeAt Go.RowKit
set_option linter.unusedVariables false
set_option linter.unusedSimpArgs false

theorem fnExactSameBag_own : ownKnob Try.prog.godebug = none := by kernel_rfl

/-- The law at the value level, for all that its arguments may be. -/
theorem fnExactSameBag_all (vs : List V) (h : AllHas (fun t v => ∃ n, Has Try.prog n t v) [22, 22] vs) (s : S) : VCalls Try.prog 3 vs s (fun v _ => v = .bool true) := by
  obtain ⟨v0, _, rfl, ⟨n0, h0⟩, v1, _, rfl, ⟨n1, h1⟩, rfl⟩ := h
  obtain ⟨a0, e0⟩ := ValSS_has h0
  obtain ⟨a1, e1⟩ := ValSS_has h1
  refine VCalls.forget ?_
  simp only [List.map_cons, List.map_nil, V.forget, e0, e1]
  exact lawSameBag_v a0 a1 s

set_option maxRecDepth 100000 in
theorem fnExactSameBag_lifted (os : Os) (started : os.Started) (H : Type) (enc : TypeId × Value → H) :
    ReturnsInHanded {} Try.checked os 3 .any (Rows.fnExactSameBagSpec.pre6 enc Try.prog Try.f3 Rows.fnExactSameBagRow.domain false) (Rows.fnExactSameBagSpec.post enc Try.prog Try.f3 false true false false) := by
  refine returnsInHanded_of_change (C := Try.checked) fnExactSameBag_own started (by kernel_rfl) Try.func3
    (ChangeSpec.witness6 (enc := enc) (C := Try.checked) false ⟨#[], #[.slice none 0 0, .slice none 0 0], []⟩ 8 (by kernel_rfl) (by kernel_rfl) (by kernel_rfl) (by kernel_rfl)) ?_
  intro W base args ds gs before hval0 hW hcnd _
  have hval : ∀ (j : Nat) t v, Try.f3.params[j]? = some t → args[j]? = some v → Value.okWide Try.prog W .any base t v := hval0
  refine law_row (t := 4) [22, 29, 36, 3, 9] (tab_none _) hW hval rfl (fun hl => ?_) (by kernel_rfl) Try.underlying4 (by kernel_rfl) (by kernel_rfl) (by kernel_rfl) (fun vs hvs s => ?_)
  · rw [Try.params3] at hl
    match ds, hl with
    | [d0, d1], _ => rfl
  · rw [Try.params3] at hvs
    exact fnExactSameBag_all vs hvs s

theorem fnExactSameBag_over : Rows.fnExactSameBagRow.holds Try.pinned (OpenSpec.ofChange Rows.fnExactSameBagSpec) :=
  OpenClaim.holds_of_wide 3 Try.f3 rfl rfl rfl rfl rfl rfl rfl ⟨rfl, rfl, rfl, rfl, rfl⟩ rfl rfl rfl rfl rfl (by kernel_rfl) Try.func3 (by kernel_rfl)
    (of_decide_eq_true (by kernel_rfl)) (by unfold Func.isWrapper; first | (rw [if_pos (by decide +kernel)]; kernel_rfl) | (rw [if_neg (by decide +kernel)]; exact ⟨rfl, rfl⟩))
    (fun os started H enc _ => fnExactSameBag_lifted os started H enc)

/-- The statement. -/
theorem fnExactSameBag_holds : Rows.FnExactSameBagSaid := fnExactSameBag_over
#print axioms fnExactSameBag_holds
end Go.Proofs.Ytkkifdgnebbghaa
