/-
  'Rows.FnExactOutNameCardSaid': the law returns true and each argument reads as before; the library's tables that the row lists are tied to the program's text. No conditions of our own.
-/
import Derived.Test.YtoededaekidbcaaDoorRows
import Derived.Test.YtoededaekidbcaaDoorVRow
import Derived.Test.YtoededaekidbcaaDoorDOut
import Derived.Test.YtoededaekidbcaaDoorDLaid
import Derived.Test.YtoededaekidbcaaDoorCards
import Derived.Test.YtoededaekidbcaaDoorTie
import Derived.SevenTiedAt
import Derived.Handed
import Derived.Lay
import Derived.LaidMore
import Derived.MakeChecks
import Derived.WalkKit
import Derived.ProofKit
import Derived.OpenShut
namespace Go.Proofs.YtoededaekidbcaaDoor
open Go Go.ChangeShapes Go.WideShapes Go.ChangeAt Go.RowKit
set_option linter.unusedVariables false
set_option linter.unusedSimpArgs false

theorem fnExactOutName_own : ownKnob Tryd.prog.godebug = none := by kernel_rfl

/-- The law at the value level, for all that its arguments may be. -/
theorem fnExactOutName_all (vs : List V) (h : AllHas (fun t v => ∃ n, Has Tryd.prog n t v) [39, 3] vs) (s : S) : VCalls Tryd.prog 5 vs s (fun v _ => v = .bool true) := by
  obtain ⟨v0, _, rfl, ⟨n0, h0⟩, v1, _, rfl, ⟨n1, h1⟩, rfl⟩ := h
  obtain ⟨a0, e0⟩ := Item_has h0
  obtain ⟨a1, rfl⟩ := Has.int Tryd.underlying3 h1
  refine VCalls.forget ?_
  simp only [List.map_cons, List.map_nil, V.forget, e0]
  exact lawOutName_v a0 a1 s

set_option maxRecDepth 100000 in
theorem fnExactOutName_lifted (os : Os) (started : os.Started) (H : Type) (enc : TypeId × Value → H) :
    ReturnsInHanded {} Tryd.checked os 5 .any (fun w args => (Rows.fnExactOutNameSpec.pre enc Tryd.prog Tryd.f5 Rows.fnExactOutNameRow.domain false w args ∧ laidMetH Tryd.prog Rows.fnExactOutNameRow.laid w) ∧ sizedMet enc Tryd.prog Tryd.f5 (OpenSpec.ofChange Rows.fnExactOutNameSpec) false w args) (Rows.fnExactOutNameSpec.post enc Tryd.prog Tryd.f5 false true false false) := by
  refine returnsInHanded_of_change_and (C := Tryd.checked) (X := fun w _ => laidMetH Tryd.prog Rows.fnExactOutNameRow.laid w) (fun _ _ _ hh h => h.of_heap hh) fnExactOutName_own started (by kernel_rfl) Tryd.func5
    (ChangeSpec.witness_at (enc := enc) (C := Tryd.checked) (os := os) (X := fun w _ => laidMetH Tryd.prog Rows.fnExactOutNameRow.laid w) false (World.laidAll Tryd.prog os Rows.fnExactOutNameRow.laid) #[.agg #[.bool false, .string ByteArray.empty, .int .i64 0, .int .i64 0, .bool false, .int .i64 0, .int .i64 0, .string ByteArray.empty, .string ByteArray.empty, .string ByteArray.empty, .slice none 0 0, .slice none 0 0, .string ByteArray.empty], .int .i64 0] 8 (World.laidAll_os _ _ _) (by kernel_rfl) (by kernel_rfl) (by kernel_rfl) (by kernel_rfl) (by kernel_rfl)
      (by rw [MakeChecks.laidMetH_plain _ _ _ (by kernel_rfl)]; exact laidMet_laidAll _ (by kernel_rfl) (by kernel_rfl))) ?_
  intro W base args ds gs before hval0 hW hcnd _ hL _
  have hval : ∀ (j : Nat) t v, Tryd.f5.params[j]? = some t → args[j]? = some v → Value.okWide Tryd.prog W .any base t v := hval0
  refine law_row (t := 4) [39, 4, 9, 37, 3, 33, 34, 35, 79, 75, 76, 105, 77, 108] (tab_laid (laid := Rows.fnExactOutNameRow.laid) (by kernel_rfl) (.tail _ (.tail _ (.head _))) hL) hW hval rfl (fun hl => ?_) (by kernel_rfl) Tryd.underlying4 (by kernel_rfl) (by kernel_rfl) (by kernel_rfl) (fun vs hvs s => ?_)
  · rw [Tryd.params5] at hl
    match ds, hl with
    | [d0, d1], _ => rfl
  · rw [Tryd.params5] at hvs
    exact fnExactOutName_all vs hvs s

theorem fnExactOutName_over : Rows.fnExactOutNameRow.holds Tryd.pinned (OpenSpec.ofChange Rows.fnExactOutNameSpec) :=
  OpenClaim.holds_of_wide 5 Tryd.f5 rfl rfl rfl rfl rfl rfl rfl ⟨rfl, rfl, rfl, rfl, rfl⟩ rfl rfl rfl rfl rfl (by kernel_rfl) Tryd.func5 (by kernel_rfl)
    (of_decide_eq_true (by kernel_rfl)) (by unfold Func.isWrapper; first | (rw [if_pos (by decide +kernel)]; kernel_rfl) | (rw [if_neg (by decide +kernel)]; exact ⟨rfl, rfl⟩))
    (fun os started H enc _ => fnExactOutName_lifted os started H enc)

/-- The statement: the card. -/
theorem fnExactOutName_holds : Rows.FnExactOutNameCardSaid :=
  Claim7.holds_tied_plain_at .later [] [.data, .data, .data] true (true, "384090fb95a95b5d75aa2fecbd3d24f9e145f5462c0bfa193c657295389a04d8") false fnExactOutName_over (fun _ h => by cases h) (by kernel_rfl) (fun _ h => by cases h) fnExactOutName_row_tie rfl ⟨rfl, rfl⟩ (by kernel_rfl) rfl
    (fun f fn hf hfn => by
      obtain rfl : f = 5 := Option.some.inj ((show Tryd.prog.funcNamed "loop.example/g00495/laws.FnExactOutName" = some 5 by kernel_rfl).symm.trans hf) |>.symm
      obtain rfl : fn = Tryd.f5 := (Option.some.inj (Tryd.func5.symm.trans hfn)).symm
      exact ⟨by kernel_rfl, fun j t ht => by
        rw [Tryd.params5] at ht
        have hm : t ∈ [39, 3] := by simpa using Array.mem_of_getElem? ht
        have hall : ([39, 3].all fun u => !Tryd.prog.wantsStandIn u) = true := by kernel_rfl
        exact (show Tryd.prog.wantsStandIn t = false by simpa using List.all_eq_true.1 hall t hm)⟩)
    (by kernel_rfl)
#print axioms fnExactOutName_holds
end Go.Proofs.YtoededaekidbcaaDoor
