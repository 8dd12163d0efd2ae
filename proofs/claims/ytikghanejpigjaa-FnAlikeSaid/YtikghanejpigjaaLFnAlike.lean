/-
 'Rows.FnAlikeSaid': the law returns true and each argument reads as before. No conditions of our own.
-/
import Derived.Test.YtikghanejpigjaaRows
import Derived.Test.YtikghanejpigjaaVRow
import Derived.Test.YtikghanejpigjaaDAlk
import Derived.WalkKit
import Derived.ProofKit
import Derived.OpenShut
namespace Go.Proofs.Ytikghanejpigjaa
open Go Go.ChangeShapes Go.WideShapes Go.ChangeAt Go.RowKit
set_option linter.unusedVariables false
set_option linter.unusedSimpArgs false
theorem fnAlike_own:ownKnob Try.prog.godebug=none:=by kernel_rfl
theorem fnAlike_all (vs:List V) (h:AllHas (fun t v=>∃ n,Has Try.prog n t v) [22] vs) (s:S):VCalls Try.prog 4 vs s (fun v _=>v = .bool true):=by
 refine VCalls.wf fun hw=>?_
 obtain ⟨v,_,rfl,⟨n,h⟩,rfl⟩:=h
 simp only [List.all_cons,List.all_nil,Bool.and_true] at hw
 exact lawAlikeL_v (bytes_has Try.underlying22 Try.underlying5 h hw) s
set_option maxRecDepth 100000 in
theorem fnAlike_lifted (os:Os) (started:os.Started) (H:Type) (enc:TypeId × Value→H) :
   ReturnsInHanded {} Try.checked os 4 .any (Rows.fnAlikeSpec.pre6 enc Try.prog Try.f4 Rows.fnAlikeRow.domain false) (Rows.fnAlikeSpec.post enc Try.prog Try.f4 false true false false):=by
 refine returnsInHanded_of_change (C:=Try.checked) fnAlike_own started (by kernel_rfl) Try.func4
   (ChangeSpec.witness6 (enc:=enc) (C:=Try.checked) false ⟨#[], #[.slice none 0 0],[]⟩ 8 (by kernel_rfl) (by kernel_rfl) (by kernel_rfl) (by kernel_rfl)) ?_
 intro W base args ds gs before hval0 hW hcnd _
 have hval:∀ (j:Nat) t v,Try.f4.params[j]?=some t→args[j]?=some v→Value.okWide Try.prog W .any base t v:=hval0
 refine law_row (t:=4) [22,5] (tab_none _) hW hval rfl (fun hl=>?_) (by kernel_rfl) Try.underlying4 (by kernel_rfl) (by kernel_rfl) (by kernel_rfl) (fun vs hvs s=>?_)
 · rw [Try.params4] at hl
   match ds,hl with
   | [d0],_=>rfl
 · rw [Try.params4] at hvs
   exact fnAlike_all vs hvs s
theorem fnAlike_over:Rows.fnAlikeRow.holds Try.pinned (OpenSpec.ofChange Rows.fnAlikeSpec) :=
 OpenClaim.holds_of_wide 4 Try.f4 rfl rfl rfl rfl rfl rfl rfl ⟨rfl,rfl,rfl,rfl,rfl⟩ rfl rfl rfl rfl rfl (by kernel_rfl) Try.func4 (by kernel_rfl)
   (of_decide_eq_true (by kernel_rfl)) (by unfold Func.isWrapper;first |(rw [if_pos (by decide +kernel)];kernel_rfl) |(rw [if_neg (by decide +kernel)];exact ⟨rfl,rfl⟩))
   (fun os started H enc _=>fnAlike_lifted os started H enc)
theorem fnAlike_holds:Rows.FnAlikeSaid:=fnAlike_over
#print axioms fnAlike_holds
end Go.Proofs.Ytikghanejpigjaa
