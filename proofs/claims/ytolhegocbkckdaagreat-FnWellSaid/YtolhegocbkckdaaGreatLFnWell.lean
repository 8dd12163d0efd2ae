/-
 'Rows.FnWellSaid': the law returns true and each argument reads as before. No conditions of our own.
-/
import Derived.Test.YtolhegocbkckdaaGreatRows
import Derived.Test.YtolhegocbkckdaaGreatVRow
import Derived.Test.YtolhegocbkckdaaGreatDWell
import Derived.WalkKit
import Derived.ProofKit
import Derived.OpenShut
namespace Go.Proofs.YtolhegocbkckdaaGreat
open Go Go.ChangeShapes Go.WideShapes Go.ChangeAt Go.RowKit
set_option linter.unusedVariables false
set_option linter.unusedSimpArgs false
theorem fnWell_own:ownKnob Tryz.prog.godebug=none:=by kernel_rfl
theorem fnWell_all (vs:List V) (h:AllHas (fun t v=>∃ n,Has Tryz.prog n t v) [22] vs) (s:S):VCalls Tryz.prog 3 vs s (fun v _=>v = .bool true):=by
 refine VCalls.wf fun hw=>?_
 obtain ⟨v,_,rfl,⟨n,h⟩,rfl⟩:=h
 simp only [List.all_cons,List.all_nil,Bool.and_true] at hw
 exact lawWellL_v (bytes_has Tryz.underlying22 Tryz.underlying5 h hw) s
set_option maxRecDepth 100000 in
theorem fnWell_lifted (os:Os) (started:os.Started) (H:Type) (enc:TypeId × Value→H) :
   ReturnsInHanded {} Tryz.checked os 3 .any (Rows.fnWellSpec.pre6 enc Tryz.prog Tryz.f3 Rows.fnWellRow.domain false) (Rows.fnWellSpec.post enc Tryz.prog Tryz.f3 false true false false):=by
 refine returnsInHanded_of_change (C:=Tryz.checked) fnWell_own started (by kernel_rfl) Tryz.func3
   (ChangeSpec.witness6 (enc:=enc) (C:=Tryz.checked) false ⟨#[], #[.slice none 0 0],[]⟩ 8 (by kernel_rfl) (by kernel_rfl) (by kernel_rfl) (by kernel_rfl)) ?_
 intro W base args ds gs before hval0 hW hcnd _
 have hval:∀ (j:Nat) t v,Tryz.f3.params[j]?=some t→args[j]?=some v→Value.okWide Tryz.prog W .any base t v:=hval0
 refine law_row (t:=4) [22,5] hW hval rfl (fun hl=>?_) (by kernel_rfl) Tryz.underlying4 (by kernel_rfl) (by kernel_rfl) (by kernel_rfl) (fun vs hvs s=>?_)
 · rw [Tryz.params3] at hl
   match ds,hl with
   | [d0],_=>rfl
 · rw [Tryz.params3] at hvs
   exact fnWell_all vs hvs s
theorem fnWell_over:Rows.fnWellRow.holds Tryz.pinned (OpenSpec.ofChange Rows.fnWellSpec) :=
 OpenClaim.holds_of_wide 3 Tryz.f3 rfl rfl rfl rfl rfl rfl rfl ⟨rfl,rfl,rfl,rfl,rfl⟩ rfl rfl rfl rfl rfl (by kernel_rfl) Tryz.func3 (by kernel_rfl)
   (of_decide_eq_true (by kernel_rfl)) (by unfold Func.isWrapper;first|(rw [if_pos (by decide +kernel)];kernel_rfl)|(rw [if_neg (by decide +kernel)];exact ⟨rfl,rfl⟩))
   (fun os started H enc _=>fnWell_lifted os started H enc)
theorem fnWell_holds:Rows.FnWellSaid:=fnWell_over
#print axioms fnWell_holds
end Go.Proofs.YtolhegocbkckdaaGreat
