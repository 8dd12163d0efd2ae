/-
  'Rows.FnExactPairsOfSaid': the law returns true and each argument reads as before. No conditions of our own.
-/
import Derived.Test.YtoededaekidbcaaRows
import Derived.Test.YtoededaekidbcaaVRow
import Derived.Test.YtoededaekidbcaaDPairL
import Derived.WalkKit
import Derived.ProofKit
import Derived.OpenShut
namespace Go.Proofs.Ytoededaekidbcaa
open Go Go.ChangeShapes Go.WideShapes Go.ChangeAt Go.RowKit
set_option linter.unusedVariables false
set_option linter.unusedSimpArgs false

theorem fnExactPairsOf_own : ownKnob Try.prog.godebug = none := by kernel_rfl

/-- The law at the value level, for all that its arguments may be. -/
theorem fnExactPairsOf_all (vs : List V) (h : AllHas (fun t v => ∃ n, Has Try.prog n t v) [22] vs) (s : S) : VCalls Try.prog 3 vs s (fun v _ => v = .bool true) := by
  obtain ⟨v0, _, rfl, ⟨n0, h0⟩, rfl⟩ := h
  obtain ⟨a0, e0⟩ := TokenS_has h0
  refine VCalls.forget ?_
  simp only [List.map_cons, List.map_nil, V.forget, e0]
  exact lawPairsOf_v a0 s

set_option maxRecDepth 100000 in
theorem fnExactPairsOf_lifted (os : Os) (started : os.Started) (H : Type) (enc : TypeId × Value → H) :
    ReturnsInHanded {} Try.checked os 3 .any (Rows.fnExactPairsOfSpec.pre6 enc Try.prog Try.f3 Rows.fnExactPairsOfRow.domain false) (Rows.fnExactPairsOfSpec.post enc Try.prog Try.f3 false true false false) := by
  refine returnsInHanded_of_change (C := Try.checked) fnExactPairsOf_own started (by kernel_rfl) Try.func3
    (ChangeSpec.witness6 (enc := enc) (C := Try.checked) false ⟨#[], #[.slice none 0 0], []⟩ 8 (by kernel_rfl) (by kernel_rfl) (by kernel_rfl) (by kernel_rfl)) ?_
  intro W base args ds gs before hval0 hW hcnd _
  have hval : ∀ (j : Nat) t v, Try.f3.params[j]? = some t → args[j]? = some v → Value.okWide Try.prog W .any base t v := hval0
  refine law_row (t := 4) [22, 43, 3, 9] (tab_none _) hW hval rfl (fun hl => ?_) (by kernel_rfl) Try.underlying4 (by kernel_rfl) (by kernel_rfl) (by kernel_rfl) (fun vs hvs s => ?_)
  · rw [Try.params3] at hl
    match ds, hl with
    | [d0], _ => rfl
  · rw [Try.params3] at hvs
    exact fnExactPairsOf_all vs hvs s

theorem fnExactPairsOf_over : Rows.fnExactPairsOfRow.holds Try.pinned (OpenSpec.ofChange Rows.fnExactPairsOfSpec) :=
  OpenClaim.holds_of_wide 3 Try.f3 rfl rfl rfl rfl rfl rfl rfl ⟨rfl, rfl, rfl, rfl, rfl⟩ rfl rfl rfl rfl rfl (by kernel_rfl) Try.func3 (by kernel_rfl)
    (of_decide_eq_true (by kernel_rfl)) (by unfold Func.isWrapper; first | (rw [if_pos (by decide +kernel)]; kernel_rfl) | (rw [if_neg (by decide +kernel)]; exact ⟨rfl, rfl⟩))
    (fun os started H enc _ => fnExactPairsOf_lifted os started H enc)

/-- The statement. -/
theorem fnExactPairsOf_holds : Rows.FnExactPairsOfSaid := fnExactPairsOf_over
#print axioms fnExactPairsOf_holds
end Go.Proofs.Ytoededaekidbcaa
