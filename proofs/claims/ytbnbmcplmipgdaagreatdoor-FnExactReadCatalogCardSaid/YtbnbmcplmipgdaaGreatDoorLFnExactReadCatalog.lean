/-
  'Rows.FnExactReadCatalogCardSaid': the law returns true and each argument reads as before; the library's tables that the row lists are tied to the program's text. No conditions of our own.
-/
import Derived.Test.YtbnbmcplmipgdaaGreatDoorRows
import Derived.Test.YtbnbmcplmipgdaaGreatDoorVRow
import Derived.Test.YtbnbmcplmipgdaaGreatDoorMg48
import Derived.Test.YtbnbmcplmipgdaaGreatDoorCards
import Derived.Test.YtbnbmcplmipgdaaGreatDoorTie
import Derived.SevenTiedAt
import Derived.Handed
import Derived.Lay
import Derived.LaidMore
import Derived.MakeChecks
import Derived.WalkKit
import Derived.ProofKit
import Derived.OpenShut
namespace Go.Proofs.YtbnbmcplmipgdaaGreatDoor
open Go Go.ChangeShapes Go.WideShapes Go.ChangeAt Go.RowKit
set_option linter.unusedVariables false
set_option linter.unusedSimpArgs false

theorem fnExactReadCatalog_own : ownKnob Tryz.prog.godebug = none := by kernel_rfl

/-- The law at the value level, for all that its arguments may be. -/
theorem fnExactReadCatalog_all (vs : List V) (h : AllHas (fun t v => ∃ n, Has Tryz.prog n t v) [9] vs) (s : S) : VCalls Tryz.prog 3 vs s (fun v _ => v = .bool true) := by
  obtain ⟨v0, _, rfl, ⟨n0, h0⟩, rfl⟩ := h
  obtain ⟨a0, rfl⟩ := Has.str Tryz.underlying9 h0
  refine VCalls.forget ?_
  simp only [List.map_cons, List.map_nil, V.forget]
  exact lawReadCatalog_v a0 s

set_option maxRecDepth 100000 in
theorem fnExactReadCatalog_lifted (os : Os) (started : os.Started) (H : Type) (enc : TypeId × Value → H) :
    ReturnsInHanded {} Tryz.checked os 3 .any (fun w args => (Rows.fnExactReadCatalogSpec.pre enc Tryz.prog Tryz.f3 Rows.fnExactReadCatalogRow.domain false w args ∧ laidMetH Tryz.prog Rows.fnExactReadCatalogRow.laid w) ∧ sizedMet enc Tryz.prog Tryz.f3 (OpenSpec.ofChange Rows.fnExactReadCatalogSpec) false w args) (Rows.fnExactReadCatalogSpec.post enc Tryz.prog Tryz.f3 false true false false) := by
  refine returns_and_shaped (C := Tryz.checked) (X := fun w _ => laidMetH Tryz.prog Rows.fnExactReadCatalogRow.laid w) (fun _ _ _ hh h => h.of_heap hh) fnExactReadCatalog_own started (by kernel_rfl) Tryz.func3
    (ChangeSpec.witness_at (enc := enc) (C := Tryz.checked) (os := os) (X := fun w _ => laidMetH Tryz.prog Rows.fnExactReadCatalogRow.laid w) false (World.laidAll Tryz.prog os Rows.fnExactReadCatalogRow.laid) #[.string ByteArray.empty] 8 (World.laidAll_os _ _ _) (by kernel_rfl) (by kernel_rfl) (by kernel_rfl) (by kernel_rfl) (by kernel_rfl)
      (by rw [MakeChecks.laidMetH_plain _ _ _ (by kernel_rfl)]; exact laidMet_laidAll _ (by kernel_rfl) (by kernel_rfl))) ?_
  intro W base args ds gs before hval0 hW hL hsh
  have hval : ∀ (j : Nat) t v, Tryz.f3.params[j]? = some t → args[j]? = some v → Value.okWide Tryz.prog W .any base t v := hval0
  refine law_row (t := 4) [9] (tab_both (laid := Rows.fnExactReadCatalogRow.laid) (by kernel_rfl) (.tail _ (.tail _ (.head _))) (.tail _ (.tail _ (.tail _ (.tail _ (.tail _ (.head _)))))) (.tail _ (.tail _ (.tail _ (.tail _ (.head _))))) hL hsh) hW hval rfl (fun hl => ?_) (by kernel_rfl) Tryz.underlying4 (by kernel_rfl) (by kernel_rfl) (by kernel_rfl) (fun vs hvs s => ?_)
  · rw [Tryz.params3] at hl
    match ds, hl with
    | [d0], _ => rfl
  · rw [Tryz.params3] at hvs
    exact fnExactReadCatalog_all vs hvs s

theorem fnExactReadCatalog_over : Rows.fnExactReadCatalogRow.holds Tryz.pinned (OpenSpec.ofChange Rows.fnExactReadCatalogSpec) :=
  OpenClaim.holds_of_wide 3 Tryz.f3 rfl rfl rfl rfl rfl rfl rfl ⟨rfl, rfl, rfl, rfl, rfl⟩ rfl rfl rfl rfl rfl (by kernel_rfl) Tryz.func3 (by kernel_rfl)
    (of_decide_eq_true (by kernel_rfl)) (by unfold Func.isWrapper; first | (rw [if_pos (by decide +kernel)]; kernel_rfl) | (rw [if_neg (by decide +kernel)]; exact ⟨rfl, rfl⟩))
    (fun os started H enc _ => fnExactReadCatalog_lifted os started H enc)

/-- The statement: the card. -/
theorem fnExactReadCatalog_holds : Rows.FnExactReadCatalogCardSaid :=
  Claim7.holds_tied_plain_at .later [] [.data, .data, .data, .data, .sentinel, .sentinel, .pinned] true (true, "e739307a69052a703062513b84211729734d7272a3ae6777a2484c60e8789cd2") true fnExactReadCatalog_over (fun _ h => by cases h) (by kernel_rfl) (fun _ h => by cases h) fnExactReadCatalog_row_tie rfl ⟨rfl, rfl⟩ (by kernel_rfl) rfl
    (fun f fn hf hfn => by
      obtain rfl : f = 3 := Option.some.inj ((show Tryz.prog.funcNamed "loop.example/g00495/laws.FnExactReadCatalog" = some 3 by kernel_rfl).symm.trans hf) |>.symm
      obtain rfl : fn = Tryz.f3 := (Option.some.inj (Tryz.func3.symm.trans hfn)).symm
      exact ⟨by kernel_rfl, fun j t ht => by
        rw [Tryz.params3] at ht
        have hm : t ∈ [9] := by simpa using Array.mem_of_getElem? ht
        have hall : ([9].all fun u => !Tryz.prog.wantsStandIn u) = true := by kernel_rfl
        exact (show Tryz.prog.wantsStandIn t = false by simpa using List.all_eq_true.1 hall t hm)⟩)
    (by kernel_rfl)
#print axioms fnExactReadCatalog_holds
end Go.Proofs.YtbnbmcplmipgdaaGreatDoor
