/-
  'Rows.FnExactFaultTextCardSaid': the law returns true and each argument reads as before; the library's tables that the row lists are tied to the program's text. No conditions of our own.
-/
import Derived.Test.YtoededaekidbcaaDoorRows
import Derived.Test.YtoededaekidbcaaDoorVRow
import Derived.Test.YtoededaekidbcaaDoorDFault
import Derived.Test.YtoededaekidbcaaDoorDLaid
import Derived.Test.YtoededaekidbcaaDoorCards
import Derived.Test.YtoededaekidbcaaDoorTie
import Derived.SevenTiedAt
import Derived.Handed
import Derived.Lay
import Derived.LaidMore
import Derived.MakeChecks
import Derived.WalkKit
import Derived.ProofKit
import Derived.OpenShut
namespace Go.Proofs.YtoededaekidbcaaDoor
open Go Go.ChangeShapes Go.WideShapes Go.ChangeAt Go.RowKit
set_option linter.unusedVariables false
set_option linter.unusedSimpArgs false

theorem fnExactFaultText_own : ownKnob Tryd.prog.godebug = none := by kernel_rfl

/-- The law at the value level, for all that its arguments may be. -/
theorem fnExactFaultText_all (vs : List V) (h : AllHas (fun t v => ∃ n, Has Tryd.prog n t v) [23] vs) (s : S) : VCalls Tryd.prog 3 vs s (fun v _ => v = .bool true) := by
  obtain ⟨v0, _, rfl, ⟨n0, h0⟩, rfl⟩ := h
  obtain ⟨a0, e0⟩ := Fault_has h0
  refine VCalls.forget ?_
  simp only [List.map_cons, List.map_nil, V.forget, e0]
  exact lawFaultText_v a0 s

set_option maxRecDepth 100000 in
theorem fnExactFaultText_lifted (os : Os) (started : os.Started) (H : Type) (enc : TypeId × Value → H) :
    ReturnsInHanded {} Tryd.checked os 3 .any (fun w args => (Rows.fnExactFaultTextSpec.pre enc Tryd.prog Tryd.f3 Rows.fnExactFaultTextRow.domain false w args ∧ laidMetH Tryd.prog Rows.fnExactFaultTextRow.laid w) ∧ sizedMet enc Tryd.prog Tryd.f3 (OpenSpec.ofChange Rows.fnExactFaultTextSpec) false w args) (Rows.fnExactFaultTextSpec.post enc Tryd.prog Tryd.f3 false true false false) := by
  refine returnsInHanded_of_change_and (C := Tryd.checked) (X := fun w _ => laidMetH Tryd.prog Rows.fnExactFaultTextRow.laid w) (fun _ _ _ hh h => h.of_heap hh) fnExactFaultText_own started (by kernel_rfl) Tryd.func3
    (ChangeSpec.witness_at (enc := enc) (C := Tryd.checked) (os := os) (X := fun w _ => laidMetH Tryd.prog Rows.fnExactFaultTextRow.laid w) false (World.laidAll Tryd.prog os Rows.fnExactFaultTextRow.laid) #[.agg #[.int .i64 0, .int .i64 0]] 8 (World.laidAll_os _ _ _) (by kernel_rfl) (by kernel_rfl) (by kernel_rfl) (by kernel_rfl) (by kernel_rfl)
      (by rw [MakeChecks.laidMetH_plain _ _ _ (by kernel_rfl)]; exact laidMet_laidAll _ (by kernel_rfl) (by kernel_rfl))) ?_
  intro W base args ds gs before hval0 hW hcnd _ hL _
  have hval : ∀ (j : Nat) t v, Tryd.f3.params[j]? = some t → args[j]? = some v → Value.okWide Tryd.prog W .any base t v := hval0
  refine law_row (t := 4) [23, 3] (tab_laid (laid := Rows.fnExactFaultTextRow.laid) (by kernel_rfl) (.tail _ (.tail _ (.head _))) hL) hW hval rfl (fun hl => ?_) (by kernel_rfl) Tryd.underlying4 (by kernel_rfl) (by kernel_rfl) (by kernel_rfl) (fun vs hvs s => ?_)
  · rw [Tryd.params3] at hl
    match ds, hl with
    | [d0], _ => rfl
  · rw [Tryd.params3] at hvs
    exact fnExactFaultText_all vs hvs s

theorem fnExactFaultText_over : Rows.fnExactFaultTextRow.holds Tryd.pinned (OpenSpec.ofChange Rows.fnExactFaultTextSpec) :=
  OpenClaim.holds_of_wide 3 Tryd.f3 rfl rfl rfl rfl rfl rfl rfl ⟨rfl, rfl, rfl, rfl, rfl⟩ rfl rfl rfl rfl rfl (by kernel_rfl) Tryd.func3 (by kernel_rfl)
    (of_decide_eq_true (by kernel_rfl)) (by unfold Func.isWrapper; first | (rw [if_pos (by decide +kernel)]; kernel_rfl) | (rw [if_neg (by decide +kernel)]; exact ⟨rfl, rfl⟩))
    (fun os started H enc _ => fnExactFaultText_lifted os started H enc)

/-- The statement: the card. -/
theorem fnExactFaultText_holds : Rows.FnExactFaultTextCardSaid :=
  Claim7.holds_tied_plain_at .later [] [.data, .data, .data] true (true, "384090fb95a95b5d75aa2fecbd3d24f9e145f5462c0bfa193c657295389a04d8") false fnExactFaultText_over (fun _ h => by cases h) (by kernel_rfl) (fun _ h => by cases h) fnExactFaultText_row_tie rfl ⟨rfl, rfl⟩ (by kernel_rfl) rfl
    (fun f fn hf hfn => by
      obtain rfl : f = 3 := Option.some.inj ((show Tryd.prog.funcNamed "loop.example/g00495/laws.FnExactFaultText" = some 3 by kernel_rfl).symm.trans hf) |>.symm
      obtain rfl : fn = Tryd.f3 := (Option.some.inj (Tryd.func3.symm.trans hfn)).symm
      exact ⟨by kernel_rfl, fun j t ht => by
        rw [Tryd.params3] at ht
        have hm : t ∈ [23] := by simpa using Array.mem_of_getElem? ht
        have hall : ([23].all fun u => !Tryd.prog.wantsStandIn u) = true := by kernel_rfl
        exact (show Tryd.prog.wantsStandIn t = false by simpa using List.all_eq_true.1 hall t hm)⟩)
    (by kernel_rfl)
#print axioms fnExactFaultText_holds
end Go.Proofs.YtoededaekidbcaaDoor
