/-
  The law of the parts of plans. Own work; no condition.
-/
import Derived.Test.YtehmlklfbllgcaaDCopy4
import Derived.Test.YtehmlklfbllgcaaDSc
import Derived.Test.YtehmlklfbllgcaaDPHas
namespace Go.Proofs.Ytehmlklfbllgcaa
open Go
set_option linter.unusedSimpArgs false
set_option linter.unusedVariables false

theorem markPExprS_t (ys : List PE) : MarkT Try.prog 48 (.sl 0 (ys.map PE.toV)) := (markPExprS_c ys).toT
theorem heldPExprS_t (ys : List PE) : HeldT Try.prog 49 (.sl 0 (ys.map PE.toV)) := fun k s h0 hb => heldPExprS_c ys k s h0 hb
set_option maxHeartbeats 4000000 in
theorem lawPartsOf_v (e : PL) (s : S) : VCalls Try.prog 9 [e.v] s (fun v _ => v = .bool true) := by
  have hh : Hold s s.next [] := .start _ _
  refine LCalls.body Try.func9 rfl (by kernel_rfl) ?_
  by_cases hb : 1048576 < wgt e.v
  · skip
    repeat' first
      | (refine kOps ?_; first | (refine LOps.nil ?_) | (refine LOps.ev tT_ok rfl ?_) | (refine kBox ?_; refine LOps.box rfl rfl rfl rfl ?_) | (refine kLoad ?_; first | (refine LOps.ans (AnsL.loadP tT_ok rfl rfl rfl rfl) ?_)) | (refine kCallN 30 ?_; first | (refine LOps.ans (AnsL.callP rfl rfl rfl (ok30) ((szPlan_c e).no ?_ ?_ ?_ _)) ?_; (focus (omega)); (focus (omega)); (focus (omega)))))
      | (refine kWL ?_; first | (refine WL.seq ?_) | (refine WL.region (by kernel_rfl) ?_) | (refine WL.ret ?_) | (refine kCond ?_; first | (refine WL.condT rfl ?_)))
      | (refine lthen_n ?_)
      | (refine lthen_r ?_)
      | (refine LPost.r1 (r := .tmp 2) (.inl rfl) (Res1.tmp rfl) ?_)
    rfl
  have hpw := PL.wgt_parts e
  have hpl := wgt_len PE.toV e.parts
  have h1 : (1 : Int) ≤ nkT e.v 1 := nkT_le _ _
  have h3 := nk_PL e (by omega)
  have hS := fun t => specPartsOf_c e (by omega) t
  have hI := fun t => implPartsOf_c e (by omega) t
  have hEq := fun t => eqPExprS_c e.parts (by omega) t
  have h4 := nk_PES e.parts (by omega)
  generalize e.parts = r at hpl hpw hS hI hEq h4
  have h2 : (1 : Int) ≤ nkT (.sl 0 (r.map PE.toV)) 1 := nkT_le _ _
  have hr := plain_PExprS r
  obtain ⟨w, hw⟩ : ∃ w, wgt e.v = w := ⟨_, rfl⟩
  repeat' first
    | (refine kBox ?_ ; first | (refine LOps.boxH hh rfl rfl ?_ ; intro s n hh))
    | (refine kAlloc ?_ ; refine LOps.allocH tT_ok hh rfl rfl ?_ ; intro s n hh)
    | (refine kStore ?_ ; first | (refine LOps.storeHW tT_ok 0 hh rfl rfl rfl rfl rfl rfl rfl ?_ ; intro s hh))
    | (refine kCallN 32 ?_ ; refine LOps.lendH rfl rfl ok32 hh ?_ (fun t => toPlan_c e (by omega) t) (PL.plain e) ?_ ; (focus ((repeat' first | (exact RdH.nil) | (refine RdH.cons ?_ ?_) | (refine RdV.pl ?_; (focus (first | (exact PL.plain _))))); done)) ; intro s n hh)
    | (refine kCallN 45 ?_ ; refine LOps.lendH rfl rfl ok45 hh ?_ (fun t => hS t) (hr) ?_ ; (focus ((repeat' first | (exact RdH.nil) | (refine RdH.cons ?_ ?_) | (refine RdV.th' ?_; (focus (((repeat' first | (exact .head _)); done))))); done)) ; intro s n hh)
    | (refine kCallN 46 ?_ ; refine LOps.lendH rfl rfl ok46 hh ?_ (fun t => hI t) (hr) ?_ ; (focus ((repeat' first | (exact RdH.nil) | (refine RdH.cons ?_ ?_) | (refine RdV.th' ?_; (focus (((repeat' first | (exact .head _) | (refine .tail _ ?_)); done))))); done)) ; intro s n hh)
    | (refine kCallN 36 ?_ ; first | (refine LOps.markH 2 rfl rfl ok36 hh rfl rfl (markPlan_t e) rfl ?_ ?_ ?_ ; (focus (first | assumption | omega)) ; (focus (first | assumption | omega)) ; intro s hh))
    | (refine kCallN 48 ?_ ; first | (refine LOps.markH 0 rfl rfl ok48 hh rfl rfl (markPExprS_t r) rfl ?_ ?_ ?_ ; (focus (first | assumption | omega)) ; (focus (first | assumption | omega)) ; intro s hh))
    | (refine kOps ?_; first | (refine LOps.nil ?_) | (refine kG ?_; first | (refine LOps.gT rfl rfl rfl ?_) | (refine LOps.gD false rfl rfl rfl ?_ ?_; (focus (first | (simp only [decide_eq_true_eq, decide_eq_false_iff_not, Bool.not_eq_true', Bool.not_eq_false', Int.ofNat_lt, Int.ofNat_le, Int.ofNat_inj, not_true_eq_false, not_false_eq_true]; omega))))) | (refine LOps.ev tT_ok rfl ?_) | (refine kLoad ?_; first | (refine LOps.ans (AnsL.loadHW tT_ok 0 hh rfl rfl rfl rfl) ?_) | (refine LOps.ans (AnsL.loadHW tT_ok 1 hh rfl rfl rfl rfl) ?_) | (refine LOps.ans (AnsL.loadH tT_ok 0 hh rfl rfl rfl rfl) ?_) | (refine LOps.ans (AnsL.loadH tT_ok 2 hh rfl rfl rfl rfl) ?_) | (refine LOps.ans (AnsL.loadH tT_ok 5 hh rfl rfl rfl rfl) ?_)) | (refine kCallN 30 ?_; first | (refine LOps.ans (AnsL.callP rfl rfl rfl (ok30) ((szPlan_c e).okW hw ?_ ?_ _)) ?_; (focus (omega)); (focus (omega)))) | (refine kCallN 47 ?_; first | (refine LOps.ans (AnsL.callP rfl rfl rfl ok47 (VCalls.lookH rfl hh ?_ (fun t => hEq t))) ?_; (focus (((repeat' first | (exact RdH.nil) | (refine RdH.cons ?_ ?_) | (refine RdV.th' ?_; (focus (((repeat' first | (exact .head _) | (refine .tail _ ?_)); done))))); done))))) | (refine kCallN 49 ?_; first | (refine LOps.ans (AnsL.callP rfl rfl rfl ok49 (VCalls.lookH rfl hh ?_ (fun t => heldPExprS_t r 1 t (by decide) h4))) ?_; (focus (((repeat' first | (exact RdH.nil) | (refine RdH.cons ?_ ?_) | (refine RdV.mk' ?_; (focus (((repeat' first | (exact .head _) | (refine .tail _ ?_)); done)))) | (refine RdV.pl ?_; (focus (first | (rfl))))); done))))))
    | (refine kWL ?_; first | (refine WL.seq ?_) | (refine WL.region (by kernel_rfl) ?_) | (refine WL.drawn (id := 10) [0, 1, 2, 3, 4] [] [[], [], [1], [0, 1, 2], [0, 1, 2, 3]] (by kernel_rfl) (by kernel_rfl) ?_) | (refine WL.skip ?_) | (refine WL.ret ?_) | (refine kCond ?_; first | (refine WL.condF rfl ?_) | (refine WL.condF' rfl ?_ ?_; (focus (first | (simp only [decide_eq_true_eq, decide_eq_false_iff_not, Bool.not_eq_true', Bool.not_eq_false', Int.ofNat_lt, Int.ofNat_le, Int.ofNat_inj, not_true_eq_false, not_false_eq_true]; omega) | (simp <;> fail))))))
    | (refine kDr ?_; first | (refine LDr.nil ?_) | (refine LDr.fl rfl rfl (.ev tT_ok rfl) ?_) | (refine kDLoad rfl ?_; first | (refine LDr.fl rfl rfl (AnsL.loadHW tT_ok 1 hh rfl rfl rfl rfl) ?_) | (refine LDr.fl rfl rfl (AnsL.loadH tT_ok 5 hh rfl rfl rfl rfl) ?_)) | (refine kDCallN 32 rfl ?_; first | (refine LDr.fl rfl rfl (AnsL.callP rfl rfl rfl (ok32) ((toPlan_c e (by omega)).pure (PL.plain e) _)) ?_)) | (refine kDCallN 35 rfl ?_; first | (refine LDr.fl rfl rfl (AnsL.callP rfl rfl rfl ok35 (VCalls.lookH rfl hh ?_ (fun t => eqPlan_c e (by omega) t))) ?_; (focus (((repeat' first | (exact RdH.nil) | (refine RdH.cons ?_ ?_) | (refine RdV.th' ?_; (focus (((repeat' first | (exact .head _) | (refine .tail _ ?_)); done)))) | (refine RdV.pl ?_; (focus (first | (exact PL.plain _))))); done))))))
    | (refine lthen_n ?_)
    | (refine LPost.r1 (r := .tmp 2) (.inl rfl) (Res1.tmp rfl) ?_)
  rfl

end Go.Proofs.Ytehmlklfbllgcaa
