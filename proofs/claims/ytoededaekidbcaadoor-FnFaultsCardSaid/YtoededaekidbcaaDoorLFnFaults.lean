/-
  'Rows.FnFaultsCardSaid': the law returns true and each argument reads as before; the library's tables that the row lists are tied to the program's text. No conditions of our own.
-/
import Derived.Test.YtoededaekidbcaaDoorRows
import Derived.Test.YtoededaekidbcaaDoorVRow
import Derived.Test.YtoededaekidbcaaDoorDFaultL
import Derived.Test.YtoededaekidbcaaDoorDLaid
import Derived.Test.YtoededaekidbcaaDoorCards
import Derived.Test.YtoededaekidbcaaDoorTie
import Derived.SevenTiedAt
import Derived.Handed
import Derived.Lay
import Derived.LaidMore
import Derived.MakeChecks
import Derived.WalkKit
import Derived.ProofKit
import Derived.OpenShut
namespace Go.Proofs.YtoededaekidbcaaDoor
open Go Go.ChangeShapes Go.WideShapes Go.ChangeAt Go.RowKit
set_option linter.unusedVariables false
set_option linter.unusedSimpArgs false

theorem fnFaults_own : ownKnob Tryd.prog.godebug = none := by kernel_rfl

/-- The law at the value level, for all that its arguments may be. -/
theorem fnFaults_all (vs : List V) (h : AllHas (fun t v => ∃ n, Has Tryd.prog n t v) [28] vs) (s : S) : VCalls Tryd.prog 4 vs s (fun v _ => v = .bool true) := by
  refine VCalls.wf fun hw => ?_
  obtain ⟨v, _, rfl, ⟨n, h⟩, rfl⟩ := h
  simp only [List.all_cons, List.all_nil, Bool.and_true] at hw
  exact lawFaultsL_v (bytes_has Tryd.underlying28 Tryd.underlying5 h hw) s

set_option maxRecDepth 100000 in
theorem fnFaults_lifted (os : Os) (started : os.Started) (H : Type) (enc : TypeId × Value → H) :
    ReturnsInHanded {} Tryd.checked os 4 .any (fun w args => (Rows.fnFaultsSpec.pre enc Tryd.prog Tryd.f4 Rows.fnFaultsRow.domain false w args ∧ laidMetH Tryd.prog Rows.fnFaultsRow.laid w) ∧ sizedMet enc Tryd.prog Tryd.f4 (OpenSpec.ofChange Rows.fnFaultsSpec) false w args) (Rows.fnFaultsSpec.post enc Tryd.prog Tryd.f4 false true false false) := by
  refine returnsInHanded_of_change_and (C := Tryd.checked) (X := fun w _ => laidMetH Tryd.prog Rows.fnFaultsRow.laid w) (fun _ _ _ hh h => h.of_heap hh) fnFaults_own started (by kernel_rfl) Tryd.func4
    (ChangeSpec.witness_at (enc := enc) (C := Tryd.checked) (os := os) (X := fun w _ => laidMetH Tryd.prog Rows.fnFaultsRow.laid w) false (World.laidAll Tryd.prog os Rows.fnFaultsRow.laid) #[.slice none 0 0] 8 (World.laidAll_os _ _ _) (by kernel_rfl) (by kernel_rfl) (by kernel_rfl) (by kernel_rfl) (by kernel_rfl)
      (by rw [MakeChecks.laidMetH_plain _ _ _ (by kernel_rfl)]; exact laidMet_laidAll _ (by kernel_rfl) (by kernel_rfl))) ?_
  intro W base args ds gs before hval0 hW hcnd _ hL _
  have hval : ∀ (j : Nat) t v, Tryd.f4.params[j]? = some t → args[j]? = some v → Value.okWide Tryd.prog W .any base t v := hval0
  refine law_row (t := 4) [28, 5] (tab_laid (laid := Rows.fnFaultsRow.laid) (by kernel_rfl) (.tail _ (.tail _ (.head _))) hL) hW hval rfl (fun hl => ?_) (by kernel_rfl) Tryd.underlying4 (by kernel_rfl) (by kernel_rfl) (by kernel_rfl) (fun vs hvs s => ?_)
  · rw [Tryd.params4] at hl
    match ds, hl with
    | [d0], _ => rfl
  · rw [Tryd.params4] at hvs
    exact fnFaults_all vs hvs s

theorem fnFaults_over : Rows.fnFaultsRow.holds Tryd.pinned (OpenSpec.ofChange Rows.fnFaultsSpec) :=
  OpenClaim.holds_of_wide 4 Tryd.f4 rfl rfl rfl rfl rfl rfl rfl ⟨rfl, rfl, rfl, rfl, rfl⟩ rfl rfl rfl rfl rfl (by kernel_rfl) Tryd.func4 (by kernel_rfl)
    (of_decide_eq_true (by kernel_rfl)) (by unfold Func.isWrapper; first | (rw [if_pos (by decide +kernel)]; kernel_rfl) | (rw [if_neg (by decide +kernel)]; exact ⟨rfl, rfl⟩))
    (fun os started H enc _ => fnFaults_lifted os started H enc)

/-- The statement: the card. -/
theorem fnFaults_holds : Rows.FnFaultsCardSaid :=
  Claim7.holds_tied_plain_at .later [] [.data, .data, .data] true (true, "384090fb95a95b5d75aa2fecbd3d24f9e145f5462c0bfa193c657295389a04d8") false fnFaults_over (fun _ h => by cases h) (by kernel_rfl) (fun _ h => by cases h) fnFaults_row_tie rfl ⟨rfl, rfl⟩ (by kernel_rfl) rfl
    (fun f fn hf hfn => by
      obtain rfl : f = 4 := Option.some.inj ((show Tryd.prog.funcNamed "loop.example/g00495/laws.FnFaults" = some 4 by kernel_rfl).symm.trans hf) |>.symm
      obtain rfl : fn = Tryd.f4 := (Option.some.inj (Tryd.func4.symm.trans hfn)).symm
      exact ⟨by kernel_rfl, fun j t ht => by
        rw [Tryd.params4] at ht
        have hm : t ∈ [28] := by simpa using Array.mem_of_getElem? ht
        have hall : ([28].all fun u => !Tryd.prog.wantsStandIn u) = true := by kernel_rfl
        exact (show Tryd.prog.wantsStandIn t = false by simpa using List.all_eq_true.1 hall t hm)⟩)
    (by kernel_rfl)
#print axioms fnFaults_holds
end Go.Proofs.YtoededaekidbcaaDoor
