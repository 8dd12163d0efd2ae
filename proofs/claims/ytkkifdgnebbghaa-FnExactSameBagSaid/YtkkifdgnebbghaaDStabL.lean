/-
  Both SameBag answer alike: the law. Own work; no condition.
-/
import Derived.Test.YtkkifdgnebbghaaDStabU
namespace Go.Proofs.Ytkkifdgnebbghaa
open Go
set_option linter.unusedSimpArgs false
set_option linter.unusedVariables false

set_option maxHeartbeats 4000000 in
theorem lawSameBag_v (a b : List (List Val)) (s : S) : VCalls Try.prog 3 [.sl 0 (a.map Val.toVS), .sl 0 (b.map Val.toVS)] s (fun v _ => v = .bool true) := by
  have hh : Hold s s.next [] := .start _ _
  refine LCalls.body Try.func3 rfl (by kernel_rfl) ?_
  by_cases hb : 1048576 < slW (slW Val.wt) a
  · skip
    repeat' first
      | (refine kOps ?_; first | (refine LOps.nil ?_) | (refine LOps.ev tT_ok rfl ?_) | (refine kCallN 4 ?_; first | (refine LOps.ans (AnsL.callP rfl rfl rfl (ok4) (szValSS_no _ _ ?_ ?_ ?_ _)) ?_; (focus (omega)); (focus (omega)); (focus (omega)))))
      | (refine kWL ?_; first | (refine WL.seq ?_) | (refine WL.region (by kernel_rfl) ?_) | (refine WL.ret ?_) | (refine kCond ?_; first | (refine WL.condT rfl ?_)))
      | (refine lthen_n ?_)
      | (refine lthen_r ?_)
      | (refine LPost.r1 (r := .tmp 4) (.inl rfl) (Res1.tmp rfl) ?_)
    rfl
  by_cases hb2 : 1048576 < slW (slW Val.wt) a + slW (slW Val.wt) b
  · skip
    repeat' first
      | (refine kOps ?_; first | (refine LOps.nil ?_) | (refine LOps.ev tT_ok rfl ?_) | (refine kCallN 4 ?_; first | (refine LOps.ans (AnsL.callP rfl rfl rfl (ok4) (szValSS_ok _ _ ?_ ?_ _)) ?_; (focus (omega)); (focus (omega))) | (refine LOps.ans (AnsL.callP rfl rfl rfl (ok4) (szValSS_no _ _ ?_ ?_ ?_ _)) ?_; (focus (omega)); (focus (omega)); (focus (omega)))))
      | (refine kWL ?_; first | (refine WL.seq ?_) | (refine WL.region (by kernel_rfl) ?_) | (refine WL.skip ?_) | (refine WL.ret ?_) | (refine kCond ?_; first | (refine WL.condT rfl ?_) | (refine WL.condF' rfl ?_ ?_; (focus (first | (simp only [decide_eq_true_eq, decide_eq_false_iff_not, Bool.not_eq_true', Bool.not_eq_false', Int.ofNat_lt, Int.ofNat_le, Int.ofNat_inj, not_true_eq_false, not_false_eq_true]; omega))))))
      | (refine lthen_n ?_)
      | (refine lthen_r ?_)
      | (refine LPost.r1 (r := .tmp 4) (.inl rfl) (Res1.tmp rfl) ?_)
    rfl
  have ra : ∀ x ∈ a, x.length ≤ 1048576 := fun x hx => rows_mem (rows := a) (by omega) hx
  have rb : ∀ x ∈ b, x.length ≤ 1048576 := fun x hx => rows_mem (rows := b) (by omega) hx
  have la := len_slW (slW Val.wt) a
  have lb := len_slW (slW Val.wt) b
  have wa := srt_weight (srt_has a)
  have wb := srt_weight (srt_has b)
  have hI := implSameBag_b (implSortRows_b a (by omega) ra) (implSortRows_b b (by omega) rb) (by omega) (by omega)
  have hJ := specSameBag_b (specSortRows_b a (by omega) ra) (specSortRows_b b (by omega) rb) (by omega) (by omega)
  unfold BagC at hI hJ
  generalize same rowEq (srtOf a) (srtOf b) = e at hI hJ
  cases e
  all_goals
    repeat' first
      | (refine kCallN 5 ?_ ; refine LOps.call rfl rfl (appO_nil _) ok5 (hJ _ _ hh) (fun v t hv => ?_) ; obtain ⟨rfl, s, rfl, hh⟩ := hv)
      | (refine kCallN 7 ?_ ; refine LOps.call rfl rfl (appO_nil _) ok7 (hI _ _ hh) (fun v t hv => ?_) ; obtain ⟨rfl, s, rfl, hh⟩ := hv)
      | (refine kOps ?_; first | (refine LOps.nil ?_) | (refine LOps.ev tT_ok rfl ?_) | (refine kCallN 4 ?_; first | (refine LOps.ans (AnsL.callP rfl rfl rfl (ok4) (szValSS_ok _ _ ?_ ?_ _)) ?_; (focus (omega)); (focus (omega)))) | (refine kCallN 6 ?_; first | (refine LOps.ans (AnsL.callP rfl rfl rfl (ok6) (toValSS_v _ ?_ _)) ?_; (focus (omega)))) | (refine kCallN 8 ?_; first | (refine LOps.ans (AnsL.callP rfl rfl rfl (ok8) (eqValSS_v _ ?_ _)) ?_; (focus (omega)))))
      | (refine kWL ?_; first | (refine WL.seq ?_) | (refine WL.region (by kernel_rfl) ?_) | (refine WL.skip ?_) | (refine WL.ret ?_) | (refine kCond ?_; first | (refine WL.condF rfl ?_) | (refine WL.condF' rfl ?_ ?_; (focus (first | (simp only [decide_eq_true_eq, decide_eq_false_iff_not, Bool.not_eq_true', Bool.not_eq_false', Int.ofNat_lt, Int.ofNat_le, Int.ofNat_inj, not_true_eq_false, not_false_eq_true]; omega))))))
      | (refine lthen_n ?_)
      | (refine LPost.r1 (r := .tmp 4) (.inl rfl) (Res1.tmp rfl) ?_)
    rfl

end Go.Proofs.Ytkkifdgnebbghaa
