/-
  The plain types of the laws, continued. Printed by a program of our own; no condition.
-/
import Derived.Test.YtpnabgllpgodmaaDoorDFam
namespace Go.Proofs.YtpnabgllpgodmaaDoor
open Go
set_option linter.unusedSimpArgs false
set_option linter.unusedVariables false

theorem RFault_has {n : Nat} {v : V} (h : Has Tryd.prog n 23 v) : ∃ x : RFault, v.forget = x.toV := by
  obtain ⟨n1, us, hv, h1⟩ := Has.struct Tryd.underlying23 h
  subst hv
  obtain ⟨u0, _, rfl, e0, u1, _, rfl, e1, rfl⟩ := h1
  obtain ⟨a0, rfl⟩ := Has.int Tryd.underlying3 e0
  obtain ⟨a1, rfl⟩ := Has.str Tryd.underlying9 e1
  exact ⟨⟨a0, a1⟩, by simp [V.flat, RFault.toV]⟩
theorem toRFault_v (x : RFault) (h : x.wt ≤ 1048576) (s : S) : VCalls Tryd.prog 7 [x.toV] s (fun v s' => v = x.toV ∧ s' = s) := by
  simp only [RFault.wt] at h
  refine LCalls.pure Tryd.func7 rfl (by kernel_rfl) (by simp) ?_
  repeat' first
    | (refine kOps ?_; first | (refine LOps.nil ?_) | (refine kStore ?_; refine LOps.storeP tT_ok rfl rfl rfl rfl rfl rfl rfl rfl rfl ?_) | (refine LOps.ev tT_ok rfl ?_) | (refine kBox ?_; refine LOps.box rfl rfl rfl rfl ?_) | (refine kAlloc ?_; refine LOps.alloc tT_ok rfl rfl rfl rfl ?_) | (refine kLoad ?_; first | (refine LOps.ans (AnsL.loadP tT_ok rfl rfl rfl rfl) ?_)))
    | (refine kWL ?_; first | (refine WL.seq ?_) | (refine WL.region (by kernel_rfl) ?_) | (refine WL.skip ?_) | (refine WL.ret ?_) | (refine kCond ?_; first | (refine WL.condT rfl ?_) | (refine WL.condF rfl ?_) | (refine WL.condT' rfl ?_ ?_; (focus (first | (assumption) | (exact decide_eq_true (by assumption)) | (exact decide_eq_false (by assumption)) | (simp only [decide_eq_true_eq, decide_eq_false_iff_not, Bool.not_eq_true', Bool.not_eq_false', Int.ofNat_lt, Int.ofNat_le, Int.ofNat_inj, not_true_eq_false, not_false_eq_true]; omega) | (simp <;> fail)))) | (refine WL.condF' rfl ?_ ?_; (focus (first | (assumption) | (exact decide_eq_true (by assumption)) | (exact decide_eq_false (by assumption)) | (simp only [decide_eq_true_eq, decide_eq_false_iff_not, Bool.not_eq_true', Bool.not_eq_false', Int.ofNat_lt, Int.ofNat_le, Int.ofNat_inj, not_true_eq_false, not_false_eq_true]; omega) | (simp <;> fail)))) | (refine WL.cond rfl (fun h => ?_) (fun h => ?_))))
    | (refine lthen_n ?_)
    | (refine lthen_r ?_)
    | (refine lback_r ?_)
    | (refine lback_e ?_)
    | (refine lbackD_r ?_)
    | (refine lbackD_e ?_)
    | (refine lbackH_r ?_)
    | (refine lbackH_e ?_)
    | (refine LPost.r1 (r := .cell 2 26) (.inl rfl) (Res1.cell tT_ok rfl rfl rfl rfl) ?_)
    | (refine PureR.mk ?_)
    | (refine' LPost.r1 (r := .cell 2 26) (.inl rfl) ?_ ?_; rotate_left 1; (focus (first | (exact Res1.cellH 0 tT_ok hh rfl rfl rfl rfl) | (exact Res1.cellH 1 tT_ok hh rfl rfl rfl rfl) | (exact Res1.cellH 2 tT_ok hh rfl rfl rfl rfl) | (exact Res1.cellH 3 tT_ok hh rfl rfl rfl rfl) | (exact Res1.cellH 4 tT_ok hh rfl rfl rfl rfl) | (exact Res1.cellH 5 tT_ok hh rfl rfl rfl rfl) | (exact Res1.cellH 6 tT_ok hh rfl rfl rfl rfl) | (exact Res1.cellH 7 tT_ok hh rfl rfl rfl rfl) | (exact Res1.cellHW 0 tT_ok hh rfl rfl rfl rfl) | (exact Res1.cellHW 1 tT_ok hh rfl rfl rfl rfl) | (exact Res1.cellHW 2 tT_ok hh rfl rfl rfl rfl) | (exact Res1.cellHW 3 tT_ok hh rfl rfl rfl rfl) | (exact Res1.cellHW 4 tT_ok hh rfl rfl rfl rfl) | (exact Res1.cellHW 5 tT_ok hh rfl rfl rfl rfl) | (exact Res1.cellHW 6 tT_ok hh rfl rfl rfl rfl) | (exact Res1.cellHW 7 tT_ok hh rfl rfl rfl rfl))))
  simp [RFault.toV]
theorem szRFault_v (x : RFault) (left : Int) (h0 : 0 ≤ left) (h1 : left ≤ 1048576) (s : S) : VCalls Tryd.prog 5 [x.toV, .int .i64 left] s (fun v s' => v = .int .i64 (szI x.wt left) ∧ s' = s) := by
  refine VCalls.wf fun hwf => ?_
  simp [RFault.toV, V.wf, V.wfL] at hwf
  have hmx := len_max
  refine LCalls.pure Tryd.func5 rfl (by kernel_rfl) (by simp) ?_
  by_cases c0 : left - (x.name.length : Nat) < 0
  · skip
    repeat' first
      | (refine kOps ?_; first | (refine LOps.nil ?_) | (refine LOps.ev tT_ok rfl ?_) | (refine kBox ?_; refine LOps.box rfl rfl rfl rfl ?_) | (refine kLoad ?_; first | (refine LOps.ans (AnsL.loadP tT_ok rfl rfl rfl rfl) ?_)) | (refine kLen ?_; first | (refine LOps.ans (AnsL.lenM tT_ok rfl rfl rfl) ?_) | (refine LOps.ans (AnsL.lenS tT_ok rfl rfl rfl rfl) ?_) | (refine LOps.ans (AnsL.lenG tT_ok rfl rfl rfl) ?_)) | (refine kBin ?_; first | (refine LOps.ans (AnsL.sub rfl rfl ?_) ?_; (focus (constructor <;> omega))) | (refine LOps.ans (AnsL.arith rfl rfl rfl) ?_)))
      | (refine kWL ?_; first | (refine WL.seq ?_) | (refine WL.region (by kernel_rfl) ?_) | (refine WL.skip ?_) | (refine WL.ret ?_) | (refine kCond ?_; first | (refine WL.condT rfl ?_) | (refine WL.condF rfl ?_) | (refine WL.condT' rfl ?_ ?_; (focus (first | (assumption) | (exact decide_eq_true (by assumption)) | (exact decide_eq_false (by assumption)) | (simp only [decide_eq_true_eq, decide_eq_false_iff_not, Bool.not_eq_true', Bool.not_eq_false', Int.ofNat_lt, Int.ofNat_le, Int.ofNat_inj, not_true_eq_false, not_false_eq_true]; omega) | (simp <;> fail)))) | (refine WL.condF' rfl ?_ ?_; (focus (first | (assumption) | (exact decide_eq_true (by assumption)) | (exact decide_eq_false (by assumption)) | (simp only [decide_eq_true_eq, decide_eq_false_iff_not, Bool.not_eq_true', Bool.not_eq_false', Int.ofNat_lt, Int.ofNat_le, Int.ofNat_inj, not_true_eq_false, not_false_eq_true]; omega) | (simp <;> fail)))) | (refine WL.cond rfl (fun h => ?_) (fun h => ?_))))
      | (refine lthen_n ?_)
      | (refine lthen_r ?_)
      | (refine lback_r ?_)
      | (refine lback_e ?_)
      | (refine lbackD_r ?_)
      | (refine lbackD_e ?_)
      | (refine lbackH_r ?_)
      | (refine lbackH_e ?_)
      | (refine LPost.r1 (r := .tmp 4) (.inl rfl) (Res1.tmp rfl) ?_)
      | (refine PureR.mk ?_)
    show V.int .i64 (-1) = _; rw [szI_neg (by simp only [RFault.wt]; omega)]
  repeat' first
    | (refine kOps ?_; first | (refine LOps.nil ?_) | (refine LOps.ev tT_ok rfl ?_) | (refine kBox ?_; refine LOps.box rfl rfl rfl rfl ?_) | (refine kLoad ?_; first | (refine LOps.ans (AnsL.loadP tT_ok rfl rfl rfl rfl) ?_)) | (refine kLen ?_; first | (refine LOps.ans (AnsL.lenM tT_ok rfl rfl rfl) ?_) | (refine LOps.ans (AnsL.lenS tT_ok rfl rfl rfl rfl) ?_) | (refine LOps.ans (AnsL.lenG tT_ok rfl rfl rfl) ?_)) | (refine kBin ?_; first | (refine LOps.ans (AnsL.sub rfl rfl ?_) ?_; (focus (constructor <;> omega))) | (refine LOps.ans (AnsL.arith rfl rfl rfl) ?_)))
    | (refine kWL ?_; first | (refine WL.seq ?_) | (refine WL.region (by kernel_rfl) ?_) | (refine WL.skip ?_) | (refine WL.ret ?_) | (refine kCond ?_; first | (refine WL.condT rfl ?_) | (refine WL.condF rfl ?_) | (refine WL.condT' rfl ?_ ?_; (focus (first | (assumption) | (exact decide_eq_true (by assumption)) | (exact decide_eq_false (by assumption)) | (simp only [decide_eq_true_eq, decide_eq_false_iff_not, Bool.not_eq_true', Bool.not_eq_false', Int.ofNat_lt, Int.ofNat_le, Int.ofNat_inj, not_true_eq_false, not_false_eq_true]; omega) | (simp <;> fail)))) | (refine WL.condF' rfl ?_ ?_; (focus (first | (assumption) | (exact decide_eq_true (by assumption)) | (exact decide_eq_false (by assumption)) | (simp only [decide_eq_true_eq, decide_eq_false_iff_not, Bool.not_eq_true', Bool.not_eq_false', Int.ofNat_lt, Int.ofNat_le, Int.ofNat_inj, not_true_eq_false, not_false_eq_true]; omega) | (simp <;> fail)))) | (refine WL.cond rfl (fun h => ?_) (fun h => ?_))))
    | (refine lthen_n ?_)
    | (refine lthen_r ?_)
    | (refine lback_r ?_)
    | (refine lback_e ?_)
    | (refine lbackD_r ?_)
    | (refine lbackD_e ?_)
    | (refine lbackH_r ?_)
    | (refine lbackH_e ?_)
    | (refine LPost.r1 (r := .tmp 4) (.inl rfl) (Res1.tmp rfl) ?_)
    | (refine PureR.mk ?_)
  rw [szI_pos (by simp only [RFault.wt]; omega)]; simp only [RFault.wt]; show V.int .i64 _ = _; first | rfl | (congr 1; omega)
theorem szRFault_ok (x : RFault) (left : Int) (h1 : left ≤ 1048576) (h2 : (x.wt : Int) ≤ left) (s : S) : VCalls Tryd.prog 5 [x.toV, .int .i64 left] s (fun v s' => v = .int .i64 (left - (x.wt : Nat)) ∧ s' = s) := by
  rw [← szI_pos (w := x.wt) (by omega)]; exact szRFault_v x left (by omega) h1 s
theorem szRFault_no (x : RFault) (left : Int) (h0 : 0 ≤ left) (h1 : left ≤ 1048576) (h2 : left < (x.wt : Int)) (s : S) : VCalls Tryd.prog 5 [x.toV, .int .i64 left] s (fun v s' => v = .int .i64 (-1) ∧ s' = s) := by
  rw [← szI_neg (w := x.wt) (left := left) (by omega)]; exact szRFault_v x left h0 h1 s
end Go.Proofs.YtpnabgllpgodmaaDoor
