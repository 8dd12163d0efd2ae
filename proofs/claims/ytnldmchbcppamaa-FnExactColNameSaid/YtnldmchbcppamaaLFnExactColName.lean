/-
  'Rows.FnExactColNameSaid': the law returns true and each argument reads as before. No conditions of our own.
-/
import Derived.Test.YtnldmchbcppamaaRows
import Derived.Test.YtnldmchbcppamaaVRow
import Derived.Test.YtnldmchbcppamaaDColName
import Derived.WalkKit
import Derived.ProofKit
import Derived.OpenShut
namespace Go.Proofs.Ytnldmchbcppamaa
open Go Go.ChangeShapes Go.WideShapes Go.ChangeAt Go.RowKit
set_option linter.unusedVariables false

theorem fnExactColName_own : ownKnob Try.prog.godebug = none := by kernel_rfl

/-- The law at the value level, for all that its arguments may be. -/
theorem fnExactColName_all (vs : List V) (h : AllHas (fun t v => ∃ n, Has Try.prog n t v) [9, 9] vs) (s : S) : VCalls Try.prog 4 vs s (fun v _ => v = .bool true) := by
  obtain ⟨v, _, rfl, ⟨n, h⟩, w, _, rfl, ⟨n', h'⟩, rfl⟩ := h
  obtain ⟨a, rfl⟩ := Has.str Try.underlying9 h
  obtain ⟨b, rfl⟩ := Has.str Try.underlying9 h'
  exact lawColName_v a b s

set_option maxRecDepth 100000 in
theorem fnExactColName_lifted (os : Os) (started : os.Started) (H : Type) (enc : TypeId × Value → H) :
    ReturnsInHanded {} Try.checked os 4 .any (Rows.fnExactColNameSpec.pre6 enc Try.prog Try.f4 Rows.fnExactColNameRow.domain false) (Rows.fnExactColNameSpec.post enc Try.prog Try.f4 false true false false) := by
  refine returnsInHanded_of_change (C := Try.checked) fnExactColName_own started (by kernel_rfl) Try.func4
    (ChangeSpec.witness6 (enc := enc) (C := Try.checked) false ⟨#[], #[.string ByteArray.empty, .string ByteArray.empty], []⟩ 8 (by kernel_rfl) (by kernel_rfl) (by kernel_rfl) (by kernel_rfl)) ?_
  intro W base args ds gs before hval0 hW hcnd _
  have hval : ∀ (j : Nat) t v, Try.f4.params[j]? = some t → args[j]? = some v → Value.okWide Try.prog W .any base t v := hval0
  refine law_row (t := 4) [9] hW hval rfl (fun hl => ?_) (by kernel_rfl) Try.underlying4 (by kernel_rfl) (by kernel_rfl) (by kernel_rfl) (fun vs hvs s => ?_)
  · rw [Try.params4] at hl
    match ds, hl with
    | [d0, d1], _ => rfl
  · rw [Try.params4] at hvs
    exact fnExactColName_all vs hvs s

theorem fnExactColName_over : Rows.fnExactColNameRow.holds Try.pinned (OpenSpec.ofChange Rows.fnExactColNameSpec) :=
  OpenClaim.holds_of_wide 4 Try.f4 rfl rfl rfl rfl rfl rfl rfl ⟨rfl, rfl, rfl, rfl, rfl⟩ rfl rfl rfl rfl rfl (by kernel_rfl) Try.func4 (by kernel_rfl)
    (of_decide_eq_true (by kernel_rfl)) (by unfold Func.isWrapper; first | (rw [if_pos (by decide +kernel)]; kernel_rfl) | (rw [if_neg (by decide +kernel)]; exact ⟨rfl, rfl⟩))
    (fun os started H enc _ => fnExactColName_lifted os started H enc)

/-- The statement. -/
theorem fnExactColName_holds : Rows.FnExactColNameSaid := fnExactColName_over
#print axioms fnExactColName_holds
end Go.Proofs.Ytnldmchbcppamaa
