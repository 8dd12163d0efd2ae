/-
  'Rows.FnMeetSaid': the law returns true and each argument reads as before. No conditions of our own.
-/
import Derived.Test.YtkchiflcpecbeaaRows
import Derived.Test.YtkchiflcpecbeaaVRow
import Derived.Test.YtkchiflcpecbeaaDMeet
import Derived.WalkKit
import Derived.ProofKit
import Derived.OpenShut
namespace Go.Proofs.Ytkchiflcpecbeaa
open Go Go.ChangeShapes Go.WideShapes Go.ChangeAt Go.RowKit
set_option linter.unusedVariables false

theorem fnMeet_own : ownKnob Try.prog.godebug = none := by kernel_rfl

/-- The law at the value level, for all that its arguments may be. -/
theorem fnMeet_all (vs : List V) (h : AllHas (fun t v => ∃ n, Has Try.prog n t v) [36] vs) (s : S) : VCalls Try.prog 8 vs s (fun v _ => v = .bool true) := by
  refine VCalls.wf fun hw => ?_
  obtain ⟨v, _, rfl, ⟨n, h⟩, rfl⟩ := h
  simp only [List.all_cons, List.all_nil, Bool.and_true] at hw
  have hb := bytes_has Try.underlying36 Try.underlying5 h hw
  obtain ⟨m, hm⟩ := bytes_len hb
  exact lawMeetC_v hb hm s

set_option maxRecDepth 100000 in
theorem fnMeet_lifted (os : Os) (started : os.Started) (H : Type) (enc : TypeId × Value → H) :
    ReturnsInHanded {} Try.checked os 8 .any (Rows.fnMeetSpec.pre6 enc Try.prog Try.f8 Rows.fnMeetRow.domain false) (Rows.fnMeetSpec.post enc Try.prog Try.f8 false true false false) := by
  refine returnsInHanded_of_change (C := Try.checked) fnMeet_own started (by kernel_rfl) Try.func8
    (ChangeSpec.witness6 (enc := enc) (C := Try.checked) false ⟨#[], #[.slice none 0 0], []⟩ 8 (by kernel_rfl) (by kernel_rfl) (by kernel_rfl) (by kernel_rfl)) ?_
  intro W base args ds gs before hval0 hW hcnd _
  have hval : ∀ (j : Nat) t v, Try.f8.params[j]? = some t → args[j]? = some v → Value.okWide Try.prog W .any base t v := hval0
  refine law_row (t := 4) [36, 5] hW hval rfl (fun hl => ?_) (by kernel_rfl) Try.underlying4 (by kernel_rfl) (by kernel_rfl) (by kernel_rfl) (fun vs hvs s => ?_)
  · rw [Try.params8] at hl
    match ds, hl with
    | [d0], _ => rfl
  · rw [Try.params8] at hvs
    exact fnMeet_all vs hvs s

theorem fnMeet_over : Rows.fnMeetRow.holds Try.pinned (OpenSpec.ofChange Rows.fnMeetSpec) :=
  OpenClaim.holds_of_wide 8 Try.f8 rfl rfl rfl rfl rfl rfl rfl ⟨rfl, rfl, rfl, rfl, rfl⟩ rfl rfl rfl rfl rfl (by kernel_rfl) Try.func8 (by kernel_rfl)
    (of_decide_eq_true (by kernel_rfl)) (by unfold Func.isWrapper; first | (rw [if_pos (by decide +kernel)]; kernel_rfl) | (rw [if_neg (by decide +kernel)]; exact ⟨rfl, rfl⟩))
    (fun os started H enc _ => fnMeet_lifted os started H enc)

/-- The statement. -/
theorem fnMeet_holds : Rows.FnMeetSaid := fnMeet_over
#print axioms fnMeet_holds
end Go.Proofs.Ytkchiflcpecbeaa
