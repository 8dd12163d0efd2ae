/-
  'Rows.FnExactFitsTypeSaid': the law returns true and each argument reads as before. No conditions of our own.
-/
import Derived.Test.YtkchiflcpecbeaaRows
import Derived.Test.YtkchiflcpecbeaaVRow
import Derived.Test.YtkchiflcpecbeaaDValue
import Derived.WalkKit
import Derived.ProofKit
import Derived.OpenShut
namespace Go.Proofs.Ytkchiflcpecbeaa
open Go Go.ChangeShapes Go.WideShapes Go.ChangeAt Go.RowKit
set_option linter.unusedVariables false

theorem fnExactFitsType_own : ownKnob Try.prog.godebug = none := by kernel_rfl

/-- The law at the value level, for all that its arguments may be. -/
theorem fnExactFitsType_all (vs : List V) (h : AllHas (fun t v => ∃ n, Has Try.prog n t v) [30, 3] vs) (s : S) : VCalls Try.prog 7 vs s (fun v _ => v = .bool true) := by
  obtain ⟨v0, _, rfl, ⟨n0, h0⟩, v1, _, rfl, ⟨n1, h1⟩, rfl⟩ := h
  obtain ⟨n, us, rfl, h⟩ := Has.struct Try.underlying30 h0
  obtain ⟨ty, rfl⟩ := Has.int Try.underlying3 h1
  obtain ⟨u0, _, rfl, e0, u1, _, rfl, e1, u2, _, rfl, e2, rfl⟩ := h
  obtain ⟨k, rfl⟩ := Has.int Try.underlying3 e0
  obtain ⟨m, rfl⟩ := Has.int Try.underlying3 e1
  obtain ⟨t, rfl⟩ := Has.str Try.underlying9 e2
  exact lawFitsType_v ⟨k, m, t⟩ ty s

set_option maxRecDepth 100000 in
theorem fnExactFitsType_lifted (os : Os) (started : os.Started) (H : Type) (enc : TypeId × Value → H) :
    ReturnsInHanded {} Try.checked os 7 .any (Rows.fnExactFitsTypeSpec.pre6 enc Try.prog Try.f7 Rows.fnExactFitsTypeRow.domain false) (Rows.fnExactFitsTypeSpec.post enc Try.prog Try.f7 false true false false) := by
  refine returnsInHanded_of_change (C := Try.checked) fnExactFitsType_own started (by kernel_rfl) Try.func7
    (ChangeSpec.witness6 (enc := enc) (C := Try.checked) false ⟨#[], #[.agg #[.int .i64 0, .int .i64 0, .string ByteArray.empty], .int .i64 0], []⟩ 8 (by kernel_rfl) (by kernel_rfl) (by kernel_rfl) (by kernel_rfl)) ?_
  intro W base args ds gs before hval0 hW hcnd _
  have hval : ∀ (j : Nat) t v, Try.f7.params[j]? = some t → args[j]? = some v → Value.okWide Try.prog W .any base t v := hval0
  refine law_row (t := 4) [30, 3, 9] hW hval rfl (fun hl => ?_) (by kernel_rfl) Try.underlying4 (by kernel_rfl) (by kernel_rfl) (by kernel_rfl) (fun vs hvs s => ?_)
  · rw [Try.params7] at hl
    match ds, hl with
    | [d0, d1], _ => rfl
  · rw [Try.params7] at hvs
    exact fnExactFitsType_all vs hvs s

theorem fnExactFitsType_over : Rows.fnExactFitsTypeRow.holds Try.pinned (OpenSpec.ofChange Rows.fnExactFitsTypeSpec) :=
  OpenClaim.holds_of_wide 7 Try.f7 rfl rfl rfl rfl rfl rfl rfl ⟨rfl, rfl, rfl, rfl, rfl⟩ rfl rfl rfl rfl rfl (by kernel_rfl) Try.func7 (by kernel_rfl)
    (of_decide_eq_true (by kernel_rfl)) (by unfold Func.isWrapper; first | (rw [if_pos (by decide +kernel)]; kernel_rfl) | (rw [if_neg (by decide +kernel)]; exact ⟨rfl, rfl⟩))
    (fun os started H enc _ => fnExactFitsType_lifted os started H enc)

/-- The statement. -/
theorem fnExactFitsType_holds : Rows.FnExactFitsTypeSaid := fnExactFitsType_over
#print axioms fnExactFitsType_holds
end Go.Proofs.Ytkchiflcpecbeaa
