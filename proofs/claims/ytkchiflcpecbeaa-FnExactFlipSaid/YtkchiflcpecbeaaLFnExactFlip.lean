/-
  'Rows.FnExactFlipSaid': the law returns true and each argument reads as before. No conditions of our own.
-/
import Derived.Test.YtkchiflcpecbeaaRows
import Derived.Test.YtkchiflcpecbeaaVRow
import Derived.Test.YtkchiflcpecbeaaDFlip2
import Derived.WalkKit
import Derived.ProofKit
import Derived.OpenShut
namespace Go.Proofs.Ytkchiflcpecbeaa
open Go Go.ChangeShapes Go.WideShapes Go.ChangeAt Go.RowKit
set_option linter.unusedVariables false

theorem fnExactFlip_own : ownKnob Try.prog.godebug = none := by kernel_rfl

/-- The law at the value level, for all that its arguments may be. -/
theorem fnExactFlip_all (vs : List V) (h : AllHas (fun t v => ∃ n, Has Try.prog n t v) [9, 3, 3] vs) (s : S) : VCalls Try.prog 4 vs s (fun v _ => v = .bool true) := by
  obtain ⟨v0, _, rfl, ⟨n0, h0⟩, v1, _, rfl, ⟨n1, h1⟩, v2, _, rfl, ⟨n2, h2⟩, rfl⟩ := h
  obtain ⟨a0, rfl⟩ := Has.str Try.underlying9 h0
  obtain ⟨a1, rfl⟩ := Has.int Try.underlying3 h1
  obtain ⟨a2, rfl⟩ := Has.int Try.underlying3 h2
  exact lawFlip_v a0 a1 a2 s

set_option maxRecDepth 100000 in
theorem fnExactFlip_lifted (os : Os) (started : os.Started) (H : Type) (enc : TypeId × Value → H) :
    ReturnsInHanded {} Try.checked os 4 .any (Rows.fnExactFlipSpec.pre6 enc Try.prog Try.f4 Rows.fnExactFlipRow.domain false) (Rows.fnExactFlipSpec.post enc Try.prog Try.f4 false true false false) := by
  refine returnsInHanded_of_change (C := Try.checked) fnExactFlip_own started (by kernel_rfl) Try.func4
    (ChangeSpec.witness6 (enc := enc) (C := Try.checked) false ⟨#[], #[.string ByteArray.empty, .int .i64 0, .int .i64 0], []⟩ 8 (by kernel_rfl) (by kernel_rfl) (by kernel_rfl) (by kernel_rfl)) ?_
  intro W base args ds gs before hval0 hW hcnd _
  have hval : ∀ (j : Nat) t v, Try.f4.params[j]? = some t → args[j]? = some v → Value.okWide Try.prog W .any base t v := hval0
  refine law_row (t := 4) [9, 3] hW hval rfl (fun hl => ?_) (by kernel_rfl) Try.underlying4 (by kernel_rfl) (by kernel_rfl) (by kernel_rfl) (fun vs hvs s => ?_)
  · rw [Try.params4] at hl
    match ds, hl with
    | [d0, d1, d2], _ => rfl
  · rw [Try.params4] at hvs
    exact fnExactFlip_all vs hvs s

theorem fnExactFlip_over : Rows.fnExactFlipRow.holds Try.pinned (OpenSpec.ofChange Rows.fnExactFlipSpec) :=
  OpenClaim.holds_of_wide 4 Try.f4 rfl rfl rfl rfl rfl rfl rfl ⟨rfl, rfl, rfl, rfl, rfl⟩ rfl rfl rfl rfl rfl (by kernel_rfl) Try.func4 (by kernel_rfl)
    (of_decide_eq_true (by kernel_rfl)) (by unfold Func.isWrapper; first | (rw [if_pos (by decide +kernel)]; kernel_rfl) | (rw [if_neg (by decide +kernel)]; exact ⟨rfl, rfl⟩))
    (fun os started H enc _ => fnExactFlip_lifted os started H enc)

/-- The statement. -/
theorem fnExactFlip_holds : Rows.FnExactFlipSaid := fnExactFlip_over
#print axioms fnExactFlip_holds
end Go.Proofs.Ytkchiflcpecbeaa
