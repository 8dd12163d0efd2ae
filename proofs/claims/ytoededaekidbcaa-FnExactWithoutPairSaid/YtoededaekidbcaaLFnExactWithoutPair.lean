/-
  'Rows.FnExactWithoutPairSaid': the law returns true and each argument reads as before. No conditions of our own.
-/
import Derived.Test.YtoededaekidbcaaRows
import Derived.Test.YtoededaekidbcaaVRow
import Derived.Test.YtoededaekidbcaaDDelL
import Derived.WalkKit
import Derived.ProofKit
import Derived.OpenShut
namespace Go.Proofs.Ytoededaekidbcaa
open Go Go.ChangeShapes Go.WideShapes Go.ChangeAt Go.RowKit
set_option linter.unusedVariables false
set_option linter.unusedSimpArgs false

theorem fnExactWithoutPair_own : ownKnob Try.prog.godebug = none := by kernel_rfl

/-- The law at the value level, for all that its arguments may be. -/
theorem fnExactWithoutPair_all (vs : List V) (h : AllHas (fun t v => ∃ n, Has Try.prog n t v) [22, 3] vs) (s : S) : VCalls Try.prog 4 vs s (fun v _ => v = .bool true) := by
  obtain ⟨v0, _, rfl, ⟨n0, h0⟩, v1, _, rfl, ⟨n1, h1⟩, rfl⟩ := h
  obtain ⟨a0, e0⟩ := TokenS_has h0
  obtain ⟨a1, rfl⟩ := Has.int Try.underlying3 h1
  refine VCalls.forget ?_
  simp only [List.map_cons, List.map_nil, V.forget, e0]
  exact lawWithoutPair_v a0 a1 s

set_option maxRecDepth 100000 in
theorem fnExactWithoutPair_lifted (os : Os) (started : os.Started) (H : Type) (enc : TypeId × Value → H) :
    ReturnsInHanded {} Try.checked os 4 .any (Rows.fnExactWithoutPairSpec.pre6 enc Try.prog Try.f4 Rows.fnExactWithoutPairRow.domain false) (Rows.fnExactWithoutPairSpec.post enc Try.prog Try.f4 false true false false) := by
  refine returnsInHanded_of_change (C := Try.checked) fnExactWithoutPair_own started (by kernel_rfl) Try.func4
    (ChangeSpec.witness6 (enc := enc) (C := Try.checked) false ⟨#[], #[.slice none 0 0, .int .i64 0], []⟩ 8 (by kernel_rfl) (by kernel_rfl) (by kernel_rfl) (by kernel_rfl)) ?_
  intro W base args ds gs before hval0 hW hcnd _
  have hval : ∀ (j : Nat) t v, Try.f4.params[j]? = some t → args[j]? = some v → Value.okWide Try.prog W .any base t v := hval0
  refine law_row (t := 4) [22, 43, 3, 9] (tab_none _) hW hval rfl (fun hl => ?_) (by kernel_rfl) Try.underlying4 (by kernel_rfl) (by kernel_rfl) (by kernel_rfl) (fun vs hvs s => ?_)
  · rw [Try.params4] at hl
    match ds, hl with
    | [d0, d1], _ => rfl
  · rw [Try.params4] at hvs
    exact fnExactWithoutPair_all vs hvs s

theorem fnExactWithoutPair_over : Rows.fnExactWithoutPairRow.holds Try.pinned (OpenSpec.ofChange Rows.fnExactWithoutPairSpec) :=
  OpenClaim.holds_of_wide 4 Try.f4 rfl rfl rfl rfl rfl rfl rfl ⟨rfl, rfl, rfl, rfl, rfl⟩ rfl rfl rfl rfl rfl (by kernel_rfl) Try.func4 (by kernel_rfl)
    (of_decide_eq_true (by kernel_rfl)) (by unfold Func.isWrapper; first | (rw [if_pos (by decide +kernel)]; kernel_rfl) | (rw [if_neg (by decide +kernel)]; exact ⟨rfl, rfl⟩))
    (fun os started H enc _ => fnExactWithoutPair_lifted os started H enc)

/-- The statement. -/
theorem fnExactWithoutPair_holds : Rows.FnExactWithoutPairSaid := fnExactWithoutPair_over
#print axioms fnExactWithoutPair_holds
end Go.Proofs.Ytoededaekidbcaa
