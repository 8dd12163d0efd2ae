/-
  'Rows.FnRFaultsCardSaid': the law returns true and each argument reads as before; the library's tables that the row lists are tied to the program's text. No conditions of our own.
-/
import Derived.Test.YtpnabgllpgodmaaDoorRows
import Derived.Test.YtpnabgllpgodmaaDoorVRow
import Derived.Test.YtpnabgllpgodmaaDoorDRFaultL
import Derived.Test.YtpnabgllpgodmaaDoorDShaped
import Derived.Test.YtpnabgllpgodmaaDoorCards
import Derived.Test.YtpnabgllpgodmaaDoorTie
import Derived.SevenTiedAt
import Derived.Handed
import Derived.Lay
import Derived.LaidMore
import Derived.MakeChecks
import Derived.WalkKit
import Derived.ProofKit
import Derived.OpenShut
namespace Go.Proofs.YtpnabgllpgodmaaDoor
open Go Go.ChangeShapes Go.WideShapes Go.ChangeAt Go.RowKit
set_option linter.unusedVariables false
set_option linter.unusedSimpArgs false

theorem fnRFaults_own : ownKnob Tryd.prog.godebug = none := by kernel_rfl

/-- The law at the value level, for all that its arguments may be. -/
theorem fnRFaults_all (vs : List V) (h : AllHas (fun t v => ∃ n, Has Tryd.prog n t v) [29] vs) (s : S) : VCalls Tryd.prog 4 vs s (fun v _ => v = .bool true) := by
  refine VCalls.wf fun hw => ?_
  obtain ⟨v, _, rfl, ⟨n, h⟩, rfl⟩ := h
  simp only [List.all_cons, List.all_nil, Bool.and_true] at hw
  exact lawRFaultsL_v (bytes_has Tryd.underlying29 Tryd.underlying5 h hw) s

set_option maxRecDepth 100000 in
theorem fnRFaults_lifted (os : Os) (started : os.Started) (H : Type) (enc : TypeId × Value → H) :
    ReturnsInHanded {} Tryd.checked os 4 .any (fun w args => (Rows.fnRFaultsSpec.pre enc Tryd.prog Tryd.f4 Rows.fnRFaultsRow.domain false w args ∧ laidMetH Tryd.prog Rows.fnRFaultsRow.laid w) ∧ sizedMet enc Tryd.prog Tryd.f4 (OpenSpec.ofChange Rows.fnRFaultsSpec) false w args) (Rows.fnRFaultsSpec.post enc Tryd.prog Tryd.f4 false true false false) := by
  refine returns_and_shaped (C := Tryd.checked) (X := fun w _ => laidMetH Tryd.prog Rows.fnRFaultsRow.laid w) (fun _ _ _ hh h => h.of_heap hh) fnRFaults_own started (by kernel_rfl) Tryd.func4
    (ChangeSpec.witness_at (enc := enc) (C := Tryd.checked) (os := os) (X := fun w _ => laidMetH Tryd.prog Rows.fnRFaultsRow.laid w) false (World.laidAll Tryd.prog os Rows.fnRFaultsRow.laid) #[.slice none 0 0] 8 (World.laidAll_os _ _ _) (by kernel_rfl) (by kernel_rfl) (by kernel_rfl) (by kernel_rfl) (by kernel_rfl)
      (by rw [MakeChecks.laidMetH_plain _ _ _ (by kernel_rfl)]; exact laidMet_laidAll _ (by kernel_rfl) (by kernel_rfl))) ?_
  intro W base args ds gs before hval0 hW hL hsh
  have hval : ∀ (j : Nat) t v, Tryd.f4.params[j]? = some t → args[j]? = some v → Value.okWide Tryd.prog W .any base t v := hval0
  refine law_row (t := 4) [29, 5] (tab_shaped hsh) hW hval rfl (fun hl => ?_) (by kernel_rfl) Tryd.underlying4 (by kernel_rfl) (by kernel_rfl) (by kernel_rfl) (fun vs hvs s => ?_)
  · rw [Tryd.params4] at hl
    match ds, hl with
    | [d0], _ => rfl
  · rw [Tryd.params4] at hvs
    exact fnRFaults_all vs hvs s

theorem fnRFaults_over : Rows.fnRFaultsRow.holds Tryd.pinned (OpenSpec.ofChange Rows.fnRFaultsSpec) :=
  OpenClaim.holds_of_wide 4 Tryd.f4 rfl rfl rfl rfl rfl rfl rfl ⟨rfl, rfl, rfl, rfl, rfl⟩ rfl rfl rfl rfl rfl (by kernel_rfl) Tryd.func4 (by kernel_rfl)
    (of_decide_eq_true (by kernel_rfl)) (by unfold Func.isWrapper; first | (rw [if_pos (by decide +kernel)]; kernel_rfl) | (rw [if_neg (by decide +kernel)]; exact ⟨rfl, rfl⟩))
    (fun os started H enc _ => fnRFaults_lifted os started H enc)

/-- The statement: the card. -/
theorem fnRFaults_holds : Rows.FnRFaultsCardSaid :=
  Claim7.holds_tied_plain_at .later [] [.data, .pinned] true (true, "a3220e128fe1aca45b1acedb29cafdce05460fcc145a77e538fedc47013f4264") false fnRFaults_over (fun _ h => by cases h) (by kernel_rfl) (fun _ h => by cases h) fnRFaults_row_tie rfl ⟨rfl, rfl⟩ (by kernel_rfl) rfl
    (fun f fn hf hfn => by
      obtain rfl : f = 4 := Option.some.inj ((show Tryd.prog.funcNamed "loop.example/g00495/laws.FnRFaults" = some 4 by kernel_rfl).symm.trans hf) |>.symm
      obtain rfl : fn = Tryd.f4 := (Option.some.inj (Tryd.func4.symm.trans hfn)).symm
      exact ⟨by kernel_rfl, fun j t ht => by
        rw [Tryd.params4] at ht
        have hm : t ∈ [29] := by simpa using Array.mem_of_getElem? ht
        have hall : ([29].all fun u => !Tryd.prog.wantsStandIn u) = true := by kernel_rfl
        exact (show Tryd.prog.wantsStandIn t = false by simpa using List.all_eq_true.1 hall t hm)⟩)
    (by kernel_rfl)
#print axioms fnRFaults_holds
end Go.Proofs.YtpnabgllpgodmaaDoor
