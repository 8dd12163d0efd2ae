/-
  The plain types of the laws, continued. Printed by a program of our own; no condition.
-/
import Derived.Test.YtoagpmhdgllchaaDFam
namespace Go.Proofs.Ytoagpmhdgllchaa
open Go
set_option linter.unusedSimpArgs false
set_option linter.unusedVariables false

theorem eqNamed_v (x : Named) (h : x.wt ≤ 1048576) (s : S) : VCalls Try.prog 64 [x.toV, x.toV] s (fun v s' => v = .bool true ∧ s' = s) := by
  simp only [Named.wt] at h
  refine LCalls.pure Try.func64 rfl (by kernel_rfl) (by simp) ?_
  repeat' first
    | (refine kOps ?_; first | (refine LOps.nil ?_) | (refine LOps.ev tT_ok rfl ?_) | (refine kBox ?_; refine LOps.box rfl rfl rfl rfl ?_) | (refine kLoad ?_; first | (refine LOps.ans (AnsL.loadP tT_ok rfl rfl rfl rfl) ?_)))
    | (refine kWL ?_; first | (refine WL.seq ?_) | (refine WL.region (by kernel_rfl) ?_) | (refine WL.skip ?_) | (refine WL.ret ?_) | (refine kCond ?_; first | (refine WL.condT rfl ?_) | (refine WL.condF rfl ?_) | (refine WL.condT' rfl ?_ ?_; (focus (first | (assumption) | (exact decide_eq_true (by assumption)) | (exact decide_eq_false (by assumption)) | (simp only [decide_eq_true_eq, decide_eq_false_iff_not, Bool.not_eq_true', Bool.not_eq_false', Int.ofNat_lt, Int.ofNat_le, Int.ofNat_inj, not_true_eq_false, not_false_eq_true]; omega) | (simp <;> fail)))) | (refine WL.condF' rfl ?_ ?_; (focus (first | (assumption) | (exact decide_eq_true (by assumption)) | (exact decide_eq_false (by assumption)) | (simp only [decide_eq_true_eq, decide_eq_false_iff_not, Bool.not_eq_true', Bool.not_eq_false', Int.ofNat_lt, Int.ofNat_le, Int.ofNat_inj, not_true_eq_false, not_false_eq_true]; omega) | (simp <;> fail)))) | (refine WL.cond rfl (fun h => ?_) (fun h => ?_))))
    | (refine lthen_n ?_)
    | (refine lthen_r ?_)
    | (refine lback_r ?_)
    | (refine lback_e ?_)
    | (refine lbackD_r ?_)
    | (refine lbackD_e ?_)
    | (refine lbackH_r ?_)
    | (refine lbackH_e ?_)
    | (refine LPost.r1 (r := .tmp 4) (.inl rfl) (Res1.tmp rfl) ?_)
    | (refine PureR.mk ?_)
  rfl
theorem eqNamedS_v (xs : List Named) (h : slW Named.wt xs ≤ 1048576) (s : S) : VCalls Try.prog 44 [.sl 0 (xs.map Named.toV), .sl 0 (xs.map Named.toV)] s (fun v s' => v = .bool true ∧ s' = s) := by
  have hl := len_slW Named.wt xs
  refine LCalls.pure Try.func44 rfl (by kernel_rfl) (by simp) ?_
  repeat' first
    | (refine kOps ?_; first | (refine LOps.nil ?_) | (refine LOps.ev tT_ok rfl ?_) | (refine kLoad ?_; first | (refine LOps.ans (AnsL.loadP tT_ok rfl rfl rfl rfl) ?_)) | (refine kLen ?_; first | (refine LOps.ans (AnsL.lenM tT_ok rfl rfl rfl) ?_) | (refine LOps.ans (AnsL.lenS tT_ok rfl rfl rfl rfl) ?_) | (refine LOps.ans (AnsL.lenG tT_ok rfl rfl rfl) ?_)) | (refine kBin ?_; first | (refine LOps.ans (AnsL.add rfl rfl ?_) ?_; (focus (constructor <;> omega))) | (refine LOps.ans (AnsL.arith rfl rfl rfl) ?_)) | (refine kIdx ?_; first | (refine LOps.ans (AnsL.idxA tT_ok rfl rfl rfl rfl rfl (by omega) rfl rfl) ?_) | (refine LOps.ans (AnsL.idxZ tT_ok rfl rfl rfl rfl rfl ?_ rfl rfl rfl) ?_; (focus (decide)))) | (refine kCallN 64 ?_; first | (refine LOps.ans (AnsL.callP rfl rfl rfl (ok64) (eqNamed_v _ ?_ _)) ?_; (focus (omega)))))
    | (refine kWL ?_; first | (refine WL.seq ?_) | (refine WL.region (by kernel_rfl) ?_) | (refine WL.drawn (id := 6) [0, 1, 2, 3, 4, 5, 6, 7, 8, 9] [] [[], [], [0, 1], [0, 1, 2], [], [], [4, 5], [4, 5, 6], [0, 1, 2, 3, 4, 5, 6, 7], [0, 1, 2, 3, 4, 5, 6, 7, 8]] (by kernel_rfl) (by kernel_rfl) ?_) | (refine WL.block ?_) | (refine WL.exit ?_) | (refine WL.skip ?_) | (refine WL.ret ?_) | (refine kCond ?_; first | (refine WL.condT rfl ?_) | (refine WL.condF rfl ?_) | (refine WL.condT' rfl ?_ ?_; (focus (first | (assumption) | (exact decide_eq_true (by assumption)) | (exact decide_eq_false (by assumption)) | (simp only [decide_eq_true_eq, decide_eq_false_iff_not, Bool.not_eq_true', Bool.not_eq_false', Int.ofNat_lt, Int.ofNat_le, Int.ofNat_inj, not_true_eq_false, not_false_eq_true]; omega) | (simp <;> fail)))) | (refine WL.condF' rfl ?_ ?_; (focus (first | (assumption) | (exact decide_eq_true (by assumption)) | (exact decide_eq_false (by assumption)) | (simp only [decide_eq_true_eq, decide_eq_false_iff_not, Bool.not_eq_true', Bool.not_eq_false', Int.ofNat_lt, Int.ofNat_le, Int.ofNat_inj, not_true_eq_false, not_false_eq_true]; omega) | (simp <;> fail)))) | (refine WL.cond rfl (fun h => ?_) (fun h => ?_))))
    | (refine kDr ?_; first | (refine LDr.nil ?_) | (refine LDr.fl rfl rfl (.ev tT_ok rfl) ?_) | (refine kDLoad rfl ?_; first | (refine LDr.fl rfl rfl (AnsL.loadP tT_ok rfl rfl rfl rfl) ?_)) | (refine kDLen rfl ?_; first | (refine LDr.fl rfl rfl (AnsL.lenM tT_ok rfl rfl rfl) ?_) | (refine LDr.fl rfl rfl (AnsL.lenS tT_ok rfl rfl rfl rfl) ?_) | (refine LDr.fl rfl rfl (AnsL.lenG tT_ok rfl rfl rfl) ?_)) | (refine kDBin rfl ?_; first | (refine LDr.fl rfl rfl (AnsL.add rfl rfl ?_) ?_; (focus (constructor <;> omega))) | (refine LDr.fl rfl rfl (AnsL.arith rfl rfl rfl) ?_)) | (refine kDIdx rfl ?_; first | (refine LDr.fl rfl rfl (AnsL.idxA tT_ok rfl rfl rfl rfl rfl (by omega) rfl rfl) ?_) | (refine LDr.fl rfl rfl (AnsL.idxZ tT_ok rfl rfl rfl rfl rfl ?_ rfl rfl rfl) ?_; (focus (decide)))) | (refine kDCallN 64 rfl ?_; first | (refine LDr.fl rfl rfl (AnsL.callP rfl rfl rfl (ok64) (eqNamed_v _ ?_ _)) ?_; (focus (omega)))))
    | (refine lthen_n ?_)
    | (refine lthen_r ?_)
    | (refine lthen_e ?_)
    | (refine lblock_n ?_)
    | (refine lblock_r ?_)
    | (refine lblock_e ?_)
    | (refine lblock_o rfl ?_)
    | (refine lback_r ?_)
    | (refine lback_e ?_)
    | (refine lbackD_r ?_)
    | (refine lbackD_e ?_)
    | (refine lbackH_r ?_)
    | (refine lbackH_e ?_)
    | (refine LPost.r1 (r := .tmp 4) (.inl rfl) (Res1.tmp rfl) ?_)
    | (refine PureR.mk ?_)
  refine WL.loopD (fun i : Nat => xs.length - i) (fun i => [(0, .sl 0 (xs.map Named.toV)), (1, .sl 0 (xs.map Named.toV)), (5, .int .i64 (i : Int))]) (fun i => [])
    (fun i => i ≤ xs.length) 0 0 (by simp) (fun _ => rfl) ⟨rfl, rfl, rfl, trivial⟩ rfl (fun i hi => ?_) (fun i hi => ?_)
  · simp [UnderK, UnderX, V.under, V.underL]
  rcases Nat.lt_or_ge i xs.length with hlt | hge
  · have hm := mem_slW (f := Named.wt) hlt
    repeat' first
      | (refine kOps ?_; first | (refine LOps.nil ?_) | (refine LOps.ev tT_ok rfl ?_) | (refine kLoad ?_; first | (refine LOps.ans (AnsL.loadP tT_ok rfl rfl rfl rfl) ?_)) | (refine kLen ?_; first | (refine LOps.ans (AnsL.lenM tT_ok rfl rfl rfl) ?_) | (refine LOps.ans (AnsL.lenS tT_ok rfl rfl rfl rfl) ?_) | (refine LOps.ans (AnsL.lenG tT_ok rfl rfl rfl) ?_)) | (refine kBin ?_; first | (refine LOps.ans (AnsL.add rfl rfl ?_) ?_; (focus (constructor <;> omega))) | (refine LOps.ans (AnsL.arith rfl rfl rfl) ?_)) | (refine kIdx ?_; first | (refine LOps.ans (AnsL.idxA tT_ok rfl rfl rfl rfl rfl (by omega) rfl rfl) ?_) | (refine LOps.ans (AnsL.idxZ tT_ok rfl rfl rfl rfl rfl ?_ rfl rfl rfl) ?_; (focus (decide)))) | (refine kCallN 64 ?_; first | (refine LOps.ans (AnsL.callP rfl rfl rfl (ok64) (eqNamed_v _ ?_ _)) ?_; (focus (omega)))))
      | (refine kWL ?_; first | (refine WL.seq ?_) | (refine WL.region (by kernel_rfl) ?_) | (refine WL.drawn (id := 6) [0, 1, 2, 3, 4, 5, 6, 7, 8, 9] [] [[], [], [0, 1], [0, 1, 2], [], [], [4, 5], [4, 5, 6], [0, 1, 2, 3, 4, 5, 6, 7], [0, 1, 2, 3, 4, 5, 6, 7, 8]] (by kernel_rfl) (by kernel_rfl) ?_) | (refine WL.block ?_) | (refine WL.exit ?_) | (refine WL.skip ?_) | (refine WL.ret ?_) | (refine kCond ?_; first | (refine WL.condT rfl ?_) | (refine WL.condF rfl ?_) | (refine WL.condT' rfl ?_ ?_; (focus (first | (assumption) | (exact decide_eq_true (by assumption)) | (exact decide_eq_false (by assumption)) | (simp only [decide_eq_true_eq, decide_eq_false_iff_not, Bool.not_eq_true', Bool.not_eq_false', Int.ofNat_lt, Int.ofNat_le, Int.ofNat_inj, not_true_eq_false, not_false_eq_true]; omega) | (simp <;> fail)))) | (refine WL.condF' rfl ?_ ?_; (focus (first | (assumption) | (exact decide_eq_true (by assumption)) | (exact decide_eq_false (by assumption)) | (simp only [decide_eq_true_eq, decide_eq_false_iff_not, Bool.not_eq_true', Bool.not_eq_false', Int.ofNat_lt, Int.ofNat_le, Int.ofNat_inj, not_true_eq_false, not_false_eq_true]; omega) | (simp <;> fail)))) | (refine WL.cond rfl (fun h => ?_) (fun h => ?_))))
      | (refine kDr ?_; first | (refine LDr.nil ?_) | (refine LDr.fl rfl rfl (.ev tT_ok rfl) ?_) | (refine kDLoad rfl ?_; first | (refine LDr.fl rfl rfl (AnsL.loadP tT_ok rfl rfl rfl rfl) ?_)) | (refine kDLen rfl ?_; first | (refine LDr.fl rfl rfl (AnsL.lenM tT_ok rfl rfl rfl) ?_) | (refine LDr.fl rfl rfl (AnsL.lenS tT_ok rfl rfl rfl rfl) ?_) | (refine LDr.fl rfl rfl (AnsL.lenG tT_ok rfl rfl rfl) ?_)) | (refine kDBin rfl ?_; first | (refine LDr.fl rfl rfl (AnsL.add rfl rfl ?_) ?_; (focus (constructor <;> omega))) | (refine LDr.fl rfl rfl (AnsL.arith rfl rfl rfl) ?_)) | (refine kDIdx rfl ?_; first | (refine LDr.fl rfl rfl (AnsL.idxA tT_ok rfl rfl rfl rfl rfl (by omega) rfl rfl) ?_) | (refine LDr.fl rfl rfl (AnsL.idxZ tT_ok rfl rfl rfl rfl rfl ?_ rfl rfl rfl) ?_; (focus (decide)))) | (refine kDCallN 64 rfl ?_; first | (refine LDr.fl rfl rfl (AnsL.callP rfl rfl rfl (ok64) (eqNamed_v _ ?_ _)) ?_; (focus (omega)))))
      | (refine lthen_n ?_)
      | (refine lthen_r ?_)
      | (refine lthen_e ?_)
      | (refine lblock_n ?_)
      | (refine lblock_r ?_)
      | (refine lblock_e ?_)
      | (refine lblock_o rfl ?_)
      | (refine lback_r ?_)
      | (refine lback_e ?_)
      | (refine lbackD_r ?_)
      | (refine lbackD_e ?_)
      | (refine lbackH_r ?_)
      | (refine lbackH_e ?_)
      | (refine LPost.r1 (r := .tmp 4) (.inl rfl) (Res1.tmp rfl) ?_)
      | (refine PureR.mk ?_)
    all_goals
      refine lbackD.of (i + 1) ?_ ?_ ?_ ?_
      · first | omega | (refine ⟨?_, ?_⟩; (focus (first | omega | (simp; omega))); (first | omega | (simp_all [] <;> fail) | (simp_all []; omega))) | (simp_all [] <;> fail) | (simp_all []; omega)
      · first | omega | (simp; omega) | simp_all
      · repeat' first
          | exact SubL.nil
          | (refine SubL.mk rfl ?_ ?_)
          | rfl
          | (simp [] <;> fail)
          | (simp []; omega)
      · first | rfl | (simp [] <;> fail) | (simp []; omega)
  · skip
    repeat' first
      | (refine kOps ?_; first | (refine LOps.nil ?_) | (refine LOps.ev tT_ok rfl ?_) | (refine kLoad ?_; first | (refine LOps.ans (AnsL.loadP tT_ok rfl rfl rfl rfl) ?_)) | (refine kLen ?_; first | (refine LOps.ans (AnsL.lenM tT_ok rfl rfl rfl) ?_) | (refine LOps.ans (AnsL.lenS tT_ok rfl rfl rfl rfl) ?_) | (refine LOps.ans (AnsL.lenG tT_ok rfl rfl rfl) ?_)) | (refine kBin ?_; first | (refine LOps.ans (AnsL.add rfl rfl ?_) ?_; (focus (constructor <;> omega))) | (refine LOps.ans (AnsL.arith rfl rfl rfl) ?_)) | (refine kIdx ?_; first | (refine LOps.ans (AnsL.idxA tT_ok rfl rfl rfl rfl rfl (by omega) rfl rfl) ?_) | (refine LOps.ans (AnsL.idxZ tT_ok rfl rfl rfl rfl rfl ?_ rfl rfl rfl) ?_; (focus (decide)))) | (refine kCallN 64 ?_; first | (refine LOps.ans (AnsL.callP rfl rfl rfl (ok64) (eqNamed_v _ ?_ _)) ?_; (focus (omega)))))
      | (refine kWL ?_; first | (refine WL.seq ?_) | (refine WL.region (by kernel_rfl) ?_) | (refine WL.drawn (id := 6) [0, 1, 2, 3, 4, 5, 6, 7, 8, 9] [] [[], [], [0, 1], [0, 1, 2], [], [], [4, 5], [4, 5, 6], [0, 1, 2, 3, 4, 5, 6, 7], [0, 1, 2, 3, 4, 5, 6, 7, 8]] (by kernel_rfl) (by kernel_rfl) ?_) | (refine WL.block ?_) | (refine WL.exit ?_) | (refine WL.skip ?_) | (refine WL.ret ?_) | (refine kCond ?_; first | (refine WL.condT rfl ?_) | (refine WL.condF rfl ?_) | (refine WL.condT' rfl ?_ ?_; (focus (first | (assumption) | (exact decide_eq_true (by assumption)) | (exact decide_eq_false (by assumption)) | (simp only [decide_eq_true_eq, decide_eq_false_iff_not, Bool.not_eq_true', Bool.not_eq_false', Int.ofNat_lt, Int.ofNat_le, Int.ofNat_inj, not_true_eq_false, not_false_eq_true]; omega) | (simp <;> fail)))) | (refine WL.condF' rfl ?_ ?_; (focus (first | (assumption) | (exact decide_eq_true (by assumption)) | (exact decide_eq_false (by assumption)) | (simp only [decide_eq_true_eq, decide_eq_false_iff_not, Bool.not_eq_true', Bool.not_eq_false', Int.ofNat_lt, Int.ofNat_le, Int.ofNat_inj, not_true_eq_false, not_false_eq_true]; omega) | (simp <;> fail)))) | (refine WL.cond rfl (fun h => ?_) (fun h => ?_))))
      | (refine kDr ?_; first | (refine LDr.nil ?_) | (refine LDr.fl rfl rfl (.ev tT_ok rfl) ?_) | (refine kDLoad rfl ?_; first | (refine LDr.fl rfl rfl (AnsL.loadP tT_ok rfl rfl rfl rfl) ?_)) | (refine kDLen rfl ?_; first | (refine LDr.fl rfl rfl (AnsL.lenM tT_ok rfl rfl rfl) ?_) | (refine LDr.fl rfl rfl (AnsL.lenS tT_ok rfl rfl rfl rfl) ?_) | (refine LDr.fl rfl rfl (AnsL.lenG tT_ok rfl rfl rfl) ?_)) | (refine kDBin rfl ?_; first | (refine LDr.fl rfl rfl (AnsL.add rfl rfl ?_) ?_; (focus (constructor <;> omega))) | (refine LDr.fl rfl rfl (AnsL.arith rfl rfl rfl) ?_)) | (refine kDIdx rfl ?_; first | (refine LDr.fl rfl rfl (AnsL.idxA tT_ok rfl rfl rfl rfl rfl (by omega) rfl rfl) ?_) | (refine LDr.fl rfl rfl (AnsL.idxZ tT_ok rfl rfl rfl rfl rfl ?_ rfl rfl rfl) ?_; (focus (decide)))) | (refine kDCallN 64 rfl ?_; first | (refine LDr.fl rfl rfl (AnsL.callP rfl rfl rfl (ok64) (eqNamed_v _ ?_ _)) ?_; (focus (omega)))))
      | (refine lthen_n ?_)
      | (refine lthen_r ?_)
      | (refine lthen_e ?_)
      | (refine lblock_n ?_)
      | (refine lblock_r ?_)
      | (refine lblock_e ?_)
      | (refine lblock_o rfl ?_)
      | (refine lback_r ?_)
      | (refine lback_e ?_)
      | (refine lbackD_r ?_)
      | (refine lbackD_e ?_)
      | (refine lbackH_r ?_)
      | (refine lbackH_e ?_)
      | (refine LPost.r1 (r := .tmp 4) (.inl rfl) (Res1.tmp rfl) ?_)
      | (refine PureR.mk ?_)
    rfl
theorem eqScope_v (x : Scope) (h : x.wt ≤ 1048576) (s : S) : VCalls Try.prog 22 [x.toV, x.toV] s (fun v s' => v = .bool true ∧ s' = s) := by
  simp only [Scope.wt] at h
  refine LCalls.pure Try.func22 rfl (by kernel_rfl) (by simp) ?_
  repeat' first
    | (refine kOps ?_; first | (refine LOps.nil ?_) | (refine LOps.ev tT_ok rfl ?_) | (refine kBox ?_; refine LOps.box rfl rfl rfl rfl ?_) | (refine kLoad ?_; first | (refine LOps.ans (AnsL.loadP tT_ok rfl rfl rfl rfl) ?_)) | (refine kCallN 44 ?_; first | (refine LOps.ans (AnsL.callP rfl rfl rfl (ok44) (eqNamedS_v _ ?_ _)) ?_; (focus (omega)))))
    | (refine kWL ?_; first | (refine WL.seq ?_) | (refine WL.region (by kernel_rfl) ?_) | (refine WL.skip ?_) | (refine WL.ret ?_) | (refine kCond ?_; first | (refine WL.condT rfl ?_) | (refine WL.condF rfl ?_) | (refine WL.condT' rfl ?_ ?_; (focus (first | (assumption) | (exact decide_eq_true (by assumption)) | (exact decide_eq_false (by assumption)) | (simp only [decide_eq_true_eq, decide_eq_false_iff_not, Bool.not_eq_true', Bool.not_eq_false', Int.ofNat_lt, Int.ofNat_le, Int.ofNat_inj, not_true_eq_false, not_false_eq_true]; omega) | (simp <;> fail)))) | (refine WL.condF' rfl ?_ ?_; (focus (first | (assumption) | (exact decide_eq_true (by assumption)) | (exact decide_eq_false (by assumption)) | (simp only [decide_eq_true_eq, decide_eq_false_iff_not, Bool.not_eq_true', Bool.not_eq_false', Int.ofNat_lt, Int.ofNat_le, Int.ofNat_inj, not_true_eq_false, not_false_eq_true]; omega) | (simp <;> fail)))) | (refine WL.cond rfl (fun h => ?_) (fun h => ?_))))
    | (refine lthen_n ?_)
    | (refine lthen_r ?_)
    | (refine lback_r ?_)
    | (refine lback_e ?_)
    | (refine lbackD_r ?_)
    | (refine lbackD_e ?_)
    | (refine lbackH_r ?_)
    | (refine lbackH_e ?_)
    | (refine LPost.r1 (r := .tmp 4) (.inl rfl) (Res1.tmp rfl) ?_)
    | (refine PureR.mk ?_)
  rfl
end Go.Proofs.Ytoagpmhdgllchaa
