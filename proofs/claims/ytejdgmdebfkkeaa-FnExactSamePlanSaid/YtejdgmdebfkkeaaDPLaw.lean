/-
  The laws on plans' trees and plans compared. Own work; no condition.
-/
import Derived.Test.YtejdgmdebfkkeaaDPSame
import Derived.Test.YtejdgmdebfkkeaaDPHas
import Derived.Test.YtejdgmdebfkkeaaDRecP
namespace Go.Proofs.Ytejdgmdebfkkeaa
open Go
set_option linter.unusedSimpArgs false
set_option linter.unusedVariables false

set_option maxHeartbeats 2000000 in
theorem lawSamePExpr_v (x y : PE) (s : S) : VCalls Try.prog 10 [x.v, y.v] s (fun v _ => v = .bool true) := by
  refine LCalls.body Try.func10 rfl (by kernel_rfl) ?_
  by_cases hb : 1048576 < wgt x.v
  · skip
    repeat' first
      | (refine kOps ?_; first | (refine LOps.nil ?_) | (refine LOps.ev tT_ok rfl ?_) | (refine kBox ?_; refine LOps.box rfl rfl rfl rfl ?_) | (refine kLoad ?_; first | (refine LOps.ans (AnsL.loadP tT_ok rfl rfl rfl rfl) ?_)) | (refine kCallN 48 ?_; first | (refine LOps.ans (AnsL.callP rfl rfl rfl (ok48) ((szPExpr_c x).no ?_ ?_ ?_ _)) ?_; (focus (omega)); (focus (omega)); (focus (omega)))))
      | (refine kWL ?_; first | (refine WL.seq ?_) | (refine WL.region (by kernel_rfl) ?_) | (refine WL.ret ?_) | (refine kCond ?_; first | (refine WL.condT rfl ?_)))
      | (refine lthen_n ?_)
      | (refine lthen_r ?_)
      | (refine LPost.r1 (r := .tmp 4) (.inl rfl) (Res1.tmp rfl) ?_)
    rfl
  by_cases hb2 : 1048576 < wgt x.v + wgt y.v
  · skip
    repeat' first
      | (refine kOps ?_; first | (refine LOps.nil ?_) | (refine LOps.ev tT_ok rfl ?_) | (refine kBox ?_; refine LOps.box rfl rfl rfl rfl ?_) | (refine kLoad ?_; first | (refine LOps.ans (AnsL.loadP tT_ok rfl rfl rfl rfl) ?_)) | (refine kCallN 48 ?_; first | (refine LOps.ans (AnsL.callP rfl rfl rfl (ok48) ((szPExpr_c x).ok ?_ ?_ _)) ?_; (focus (omega)); (focus (omega))) | (refine LOps.ans (AnsL.callP rfl rfl rfl (ok48) ((szPExpr_c y).no ?_ ?_ ?_ _)) ?_; (focus (omega)); (focus (omega)); (focus (omega)))))
      | (refine kWL ?_; first | (refine WL.seq ?_) | (refine WL.region (by kernel_rfl) ?_) | (refine WL.skip ?_) | (refine WL.ret ?_) | (refine kCond ?_; first | (refine WL.condT rfl ?_) | (refine WL.condF' rfl ?_ ?_; (focus (first | (simp only [decide_eq_true_eq, decide_eq_false_iff_not, Bool.not_eq_true', Bool.not_eq_false', Int.ofNat_lt, Int.ofNat_le, Int.ofNat_inj, not_true_eq_false, not_false_eq_true]; omega))))))
      | (refine lthen_n ?_)
      | (refine lthen_r ?_)
      | (refine LPost.r1 (r := .tmp 4) (.inl rfl) (Res1.tmp rfl) ?_)
    rfl
  repeat' first
    | (refine kOps ?_; first | (refine LOps.nil ?_) | (refine kStore ?_; refine LOps.storeP tT_ok rfl rfl rfl rfl rfl rfl rfl rfl rfl ?_) | (refine LOps.ev tT_ok rfl ?_) | (refine kBox ?_; refine LOps.box rfl rfl rfl rfl ?_) | (refine kAlloc ?_; refine LOps.alloc tT_ok rfl rfl rfl rfl ?_) | (refine kLoad ?_; first | (refine LOps.ans (AnsL.loadP tT_ok rfl rfl rfl rfl) ?_)) | (refine kCallN 17 ?_; first | (refine LOps.ans (AnsL.callP rfl rfl rfl (ok17) (implSamePExpr_c x y _)) ?_)) | (refine kCallN 48 ?_; first | (refine LOps.ans (AnsL.callP rfl rfl rfl (ok48) ((szPExpr_c x).ok ?_ ?_ _)) ?_; (focus (omega)); (focus (omega))) | (refine LOps.ans (AnsL.callP rfl rfl rfl (ok48) ((szPExpr_c y).ok ?_ ?_ _)) ?_; (focus (omega)); (focus (omega)))) | (refine kCallN 50 ?_; first | (refine LOps.ans (AnsL.callP rfl rfl rfl (ok50) ((toPExpr_c x (by omega)).pure (PE.plainv x) _)) ?_) | (refine LOps.ans (AnsL.callP rfl rfl rfl (ok50) ((toPExpr_c y (by omega)).pure (PE.plainv y) _)) ?_)))
    | (refine kWL ?_; first | (refine WL.seq ?_) | (refine WL.region (by kernel_rfl) ?_) | (refine WL.drawn (id := 8) [0, 1, 2, 3, 4, 5] [] [[], [0], [], [0, 1, 2], [0, 1, 2, 3], [0, 1, 2, 3, 4]] (by kernel_rfl) (by kernel_rfl) ?_) | (refine WL.drawn (id := 14) [0, 1, 2, 3, 4] [] [[], [], [1], [0, 1, 2], [0, 1, 2, 3]] (by kernel_rfl) (by kernel_rfl) ?_) | (refine WL.drawn (id := 16) [0, 1, 2, 3, 4] [] [[], [], [1], [0, 1, 2], [0, 1, 2, 3]] (by kernel_rfl) (by kernel_rfl) ?_) | (refine WL.skip ?_) | (refine WL.ret ?_) | (refine kCond ?_; first | (refine WL.condF rfl ?_) | (refine WL.condF' rfl ?_ ?_; (focus (first | (simp only [decide_eq_true_eq, decide_eq_false_iff_not, Bool.not_eq_true', Bool.not_eq_false', Int.ofNat_lt, Int.ofNat_le, Int.ofNat_inj, not_true_eq_false, not_false_eq_true]; omega) | (simp <;> fail))))))
    | (refine kDr ?_; first | (refine LDr.nil ?_) | (refine LDr.fl rfl rfl (.ev tT_ok rfl) ?_) | (refine kDLoad rfl ?_; first | (refine LDr.fl rfl rfl (AnsL.loadP tT_ok rfl rfl rfl rfl) ?_)) | (refine kDCallN 49 rfl ?_; first | (refine LDr.fl rfl rfl (AnsL.callP rfl rfl rfl (ok49) (specSamePExpr_c x y _)) ?_)) | (refine kDCallN 50 rfl ?_; first | (refine LDr.fl rfl rfl (AnsL.callP rfl rfl rfl (ok50) ((toPExpr_c x (by omega)).pure (PE.plainv x) _)) ?_) | (refine LDr.fl rfl rfl (AnsL.callP rfl rfl rfl (ok50) ((toPExpr_c y (by omega)).pure (PE.plainv y) _)) ?_)) | (refine kDCallN 51 rfl ?_; first | (refine LDr.fl rfl rfl (AnsL.callP rfl rfl rfl (ok51) (eqPExpr_c x (by omega) _)) ?_) | (refine LDr.fl rfl rfl (AnsL.callP rfl rfl rfl (ok51) (eqPExpr_c y (by omega) _)) ?_)))
    | (refine lthen_n ?_)
    | (refine LPost.r1 (r := .tmp 4) (.inl rfl) (Res1.tmp rfl) ?_)
  rfl
set_option maxHeartbeats 2000000 in
theorem lawSamePlan_v (x y : PL) (s : S) : VCalls Try.prog 11 [x.v, y.v] s (fun v _ => v = .bool true) := by
  refine LCalls.body Try.func11 rfl (by kernel_rfl) ?_
  by_cases hb : 1048576 < wgt x.v
  · skip
    repeat' first
      | (refine kOps ?_; first | (refine LOps.nil ?_) | (refine LOps.ev tT_ok rfl ?_) | (refine kBox ?_; refine LOps.box rfl rfl rfl rfl ?_) | (refine kLoad ?_; first | (refine LOps.ans (AnsL.loadP tT_ok rfl rfl rfl rfl) ?_)) | (refine kCallN 43 ?_; first | (refine LOps.ans (AnsL.callP rfl rfl rfl (ok43) ((szPlan_c x).no ?_ ?_ ?_ _)) ?_; (focus (omega)); (focus (omega)); (focus (omega)))))
      | (refine kWL ?_; first | (refine WL.seq ?_) | (refine WL.region (by kernel_rfl) ?_) | (refine WL.ret ?_) | (refine kCond ?_; first | (refine WL.condT rfl ?_)))
      | (refine lthen_n ?_)
      | (refine lthen_r ?_)
      | (refine LPost.r1 (r := .tmp 4) (.inl rfl) (Res1.tmp rfl) ?_)
    rfl
  by_cases hb2 : 1048576 < wgt x.v + wgt y.v
  · skip
    repeat' first
      | (refine kOps ?_; first | (refine LOps.nil ?_) | (refine LOps.ev tT_ok rfl ?_) | (refine kBox ?_; refine LOps.box rfl rfl rfl rfl ?_) | (refine kLoad ?_; first | (refine LOps.ans (AnsL.loadP tT_ok rfl rfl rfl rfl) ?_)) | (refine kCallN 43 ?_; first | (refine LOps.ans (AnsL.callP rfl rfl rfl (ok43) ((szPlan_c x).ok ?_ ?_ _)) ?_; (focus (omega)); (focus (omega))) | (refine LOps.ans (AnsL.callP rfl rfl rfl (ok43) ((szPlan_c y).no ?_ ?_ ?_ _)) ?_; (focus (omega)); (focus (omega)); (focus (omega)))))
      | (refine kWL ?_; first | (refine WL.seq ?_) | (refine WL.region (by kernel_rfl) ?_) | (refine WL.skip ?_) | (refine WL.ret ?_) | (refine kCond ?_; first | (refine WL.condT rfl ?_) | (refine WL.condF' rfl ?_ ?_; (focus (first | (simp only [decide_eq_true_eq, decide_eq_false_iff_not, Bool.not_eq_true', Bool.not_eq_false', Int.ofNat_lt, Int.ofNat_le, Int.ofNat_inj, not_true_eq_false, not_false_eq_true]; omega))))))
      | (refine lthen_n ?_)
      | (refine lthen_r ?_)
      | (refine LPost.r1 (r := .tmp 4) (.inl rfl) (Res1.tmp rfl) ?_)
    rfl
  repeat' first
    | (refine kOps ?_; first | (refine LOps.nil ?_) | (refine kStore ?_; refine LOps.storeP tT_ok rfl rfl rfl rfl rfl rfl rfl rfl rfl ?_) | (refine LOps.ev tT_ok rfl ?_) | (refine kBox ?_; refine LOps.box rfl rfl rfl rfl ?_) | (refine kAlloc ?_; refine LOps.alloc tT_ok rfl rfl rfl rfl ?_) | (refine kLoad ?_; first | (refine LOps.ans (AnsL.loadP tT_ok rfl rfl rfl rfl) ?_)) | (refine kCallN 29 ?_; first | (refine LOps.ans (AnsL.callP rfl rfl rfl (ok29) (implSamePlan_v x y _)) ?_)) | (refine kCallN 43 ?_; first | (refine LOps.ans (AnsL.callP rfl rfl rfl (ok43) ((szPlan_c x).ok ?_ ?_ _)) ?_; (focus (omega)); (focus (omega))) | (refine LOps.ans (AnsL.callP rfl rfl rfl (ok43) ((szPlan_c y).ok ?_ ?_ _)) ?_; (focus (omega)); (focus (omega)))) | (refine kCallN 45 ?_; first | (refine LOps.ans (AnsL.callP rfl rfl rfl (ok45) ((toPlan_c x (by omega)).pure (PL.plain x) _)) ?_) | (refine LOps.ans (AnsL.callP rfl rfl rfl (ok45) ((toPlan_c y (by omega)).pure (PL.plain y) _)) ?_)))
    | (refine kWL ?_; first | (refine WL.seq ?_) | (refine WL.region (by kernel_rfl) ?_) | (refine WL.drawn (id := 8) [0, 1, 2, 3, 4, 5] [] [[], [0], [], [0, 1, 2], [0, 1, 2, 3], [0, 1, 2, 3, 4]] (by kernel_rfl) (by kernel_rfl) ?_) | (refine WL.drawn (id := 14) [0, 1, 2, 3, 4] [] [[], [], [1], [0, 1, 2], [0, 1, 2, 3]] (by kernel_rfl) (by kernel_rfl) ?_) | (refine WL.drawn (id := 16) [0, 1, 2, 3, 4] [] [[], [], [1], [0, 1, 2], [0, 1, 2, 3]] (by kernel_rfl) (by kernel_rfl) ?_) | (refine WL.skip ?_) | (refine WL.ret ?_) | (refine kCond ?_; first | (refine WL.condF rfl ?_) | (refine WL.condF' rfl ?_ ?_; (focus (first | (simp only [decide_eq_true_eq, decide_eq_false_iff_not, Bool.not_eq_true', Bool.not_eq_false', Int.ofNat_lt, Int.ofNat_le, Int.ofNat_inj, not_true_eq_false, not_false_eq_true]; omega) | (simp <;> fail))))))
    | (refine kDr ?_; first | (refine LDr.nil ?_) | (refine LDr.fl rfl rfl (.ev tT_ok rfl) ?_) | (refine kDLoad rfl ?_; first | (refine LDr.fl rfl rfl (AnsL.loadP tT_ok rfl rfl rfl rfl) ?_)) | (refine kDCallN 45 rfl ?_; first | (refine LDr.fl rfl rfl (AnsL.callP rfl rfl rfl (ok45) ((toPlan_c x (by omega)).pure (PL.plain x) _)) ?_) | (refine LDr.fl rfl rfl (AnsL.callP rfl rfl rfl (ok45) ((toPlan_c y (by omega)).pure (PL.plain y) _)) ?_)) | (refine kDCallN 46 rfl ?_; first | (refine LDr.fl rfl rfl (AnsL.callP rfl rfl rfl (ok46) (eqPlan_c x (by omega) _)) ?_) | (refine LDr.fl rfl rfl (AnsL.callP rfl rfl rfl (ok46) (eqPlan_c y (by omega) _)) ?_)) | (refine kDCallN 52 rfl ?_; first | (refine LDr.fl rfl rfl (AnsL.callP rfl rfl rfl (ok52) (specSamePlan_v x y _)) ?_)))
    | (refine lthen_n ?_)
    | (refine LPost.r1 (r := .tmp 4) (.inl rfl) (Res1.tmp rfl) ?_)
  rfl

end Go.Proofs.Ytejdgmdebfkkeaa
