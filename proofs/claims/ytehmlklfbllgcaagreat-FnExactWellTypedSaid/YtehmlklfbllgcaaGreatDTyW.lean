/-
  The law of well-typed plans. Own work; no condition.
-/
import Derived.Test.YtehmlklfbllgcaaGreatDTyL
import Derived.Test.YtehmlklfbllgcaaGreatDCat3
namespace Go.Proofs.YtehmlklfbllgcaaGreat
open Go
set_option linter.unusedSimpArgs false
set_option linter.unusedVariables false

theorem specPlanTypes_c (c : Cat) (hc : c.wt ≤ 1048576) (p : PL) (hw : wgt p.v ≤ 1048576) : PlC Tryz.prog 22 c p := specPlanTypes_r c p hc hw fun k hk => specTypeIn_c c hc k (Nat.le_trans (PL.wgt_part2 hk) hw)
theorem implPlanTypes_c (c : Cat) (hc : c.wt ≤ 1048576) (p : PL) (hw : wgt p.v ≤ 1048576) : PlC Tryz.prog 23 c p := implPlanTypes_r c p hc hw fun k hk => implTypeIn_c c hc k (Nat.le_trans (PL.wgt_part2 hk) hw)
theorem rows_nil : RowsOk [] := fun r h => by cases h
theorem PlC.nil {g : FuncId} {c : Cat} {p : PL} (h : PlC Tryz.prog g c p) (hw : wgt p.v ≤ 1048576) (t : S) : VCalls Tryz.prog g [c.toV, .nilsl, p.v] t (fun v t' => v = typesV (PE.tyP c [] p) ∧ t' = t) := VCalls.forget (by
  have e1 : c.toV.forget = c.toV := plain_forget _ (plainL_cons (plain_TableS _) rfl)
  have e2 : p.v.forget = p.v := plain_forget _ (PL.plain p)
  rw [show List.map V.forget [c.toV, .nilsl, p.v] = [c.toV, envV [], p.v] by simp [e1, e2, envV, V.forget]]
  exact h [] (by simp; omega) rows_nil t)
def wellB (c : Cat) (p : PL) : Bool := catOk c && (decide (PE.msP (fun a b => max a b) p ≤ 24) && (decide (PE.msP (fun a b => a + b) p ≤ 200) && (PE.tyP c [] p).isSome))
theorem implisSmall_v (a b : Nat) (s : S) : VCalls Tryz.prog 62 [.int .i64 a, .int .i64 b] s (fun v s' => v = .bool (decide (a ≤ 24) && decide (b ≤ 200)) ∧ s' = s) := by
  rw [show decide (a ≤ 24) = decide ((a : Int) ≤ 24) from decide_eq_decide.2 (by omega), show decide (b ≤ 200) = decide ((b : Int) ≤ 200) from decide_eq_decide.2 (by omega)]
  refine LCalls.pure Tryz.func62 rfl (by kernel_rfl) (by simp) ?_
  repeat' first
    | (refine kOps ?_; first | (refine LOps.nil ?_) | (refine kG ?_; first | (refine LOps.gT rfl rfl rfl ?_) | (refine LOps.gF rfl rfl rfl ?_) | (refine LOps.gC rfl rfl rfl (fun h => ?_) (fun h => ?_))) | (refine LOps.ev tT_ok rfl ?_))
    | (refine kWL ?_; first | (refine WL.seq ?_) | (refine WL.region (by kernel_rfl) ?_) | (refine WL.ret ?_))
    | (refine lthen_n ?_)
    | (refine LPost.r1 (r := .tmp 4) (.inl rfl) (Res1.tmp rfl) ?_)
    | (refine PureR.mk ?_)
  all_goals (simp_all <;> (intros; omega))
theorem specWellTyped_v (c : Cat) (p : PL) (hc : c.wt ≤ 1048576) (hw : wgt p.v ≤ 1048576) (s : S) : VCalls Tryz.prog 18 [c.toV, p.v] s (fun v s' => v = .bool (wellB c p) ∧ s' = s) := by
  unfold wellB
  have hC := fun t => specCatalogOk_v c hc t
  have hD := fun t => specPlanDepth_v p hw t
  have hZ := fun t => specPlanSize_v p hw t
  have hP := fun t => (specPlanTypes_c c hc p hw).nil hw t
  generalize PE.msP (fun a b => max a b) p = d at hD ⊢
  generalize PE.msP (fun a b => a + b) p = z at hZ ⊢
  cases h1 : catOk c <;> rw [h1] at hC
  · skip
    refine LCalls.pure Tryz.func18 rfl (by kernel_rfl) (by simp) ?_
    repeat' first
      | (refine kOps ?_; first | (refine LOps.nil ?_) | (refine kG ?_; first | (refine LOps.gF rfl rfl rfl ?_)) | (refine LOps.ev tT_ok rfl ?_) | (refine kBox ?_; refine LOps.box rfl rfl rfl rfl ?_) | (refine kLoad ?_; first | (refine LOps.ans (AnsL.loadP tT_ok rfl rfl rfl rfl) ?_)) | (refine kCallN 55 ?_; first | (refine LOps.ans (AnsL.callP rfl rfl rfl (ok55) (hC _)) ?_)))
      | (refine kWL ?_; first | (refine WL.seq ?_) | (refine WL.region (by kernel_rfl) ?_) | (refine WL.ret ?_) | (refine kCond ?_; first | (refine WL.condT rfl ?_)))
      | (refine lthen_n ?_)
      | (refine lthen_r ?_)
      | (refine LPost.r1 (r := .tmp 4) (.inl rfl) (Res1.tmp rfl) ?_)
      | (refine PureR.mk ?_)
    rfl
  by_cases h2 : d ≤ 24
  case neg =>
    have h2' : ¬ (d : Int) ≤ 24 := by omega
    rw [decide_eq_false h2]
    refine LCalls.pure Tryz.func18 rfl (by kernel_rfl) (by simp) ?_
    repeat' first
      | (refine kOps ?_; first | (refine LOps.nil ?_) | (refine kG ?_; first | (refine LOps.gT rfl rfl rfl ?_) | (refine LOps.gF rfl rfl rfl ?_) | (refine LOps.gD true rfl rfl rfl ?_ ?_; (focus (first | (simp only [decide_eq_true_eq, decide_eq_false_iff_not, Bool.not_eq_true', Bool.not_eq_false', Int.ofNat_lt, Int.ofNat_le, Int.ofNat_inj, not_true_eq_false, not_false_eq_true]; omega))))) | (refine LOps.ev tT_ok rfl ?_) | (refine kBox ?_; refine LOps.box rfl rfl rfl rfl ?_) | (refine kLoad ?_; first | (refine LOps.ans (AnsL.loadP tT_ok rfl rfl rfl rfl) ?_)) | (refine kCallN 55 ?_; first | (refine LOps.ans (AnsL.callP rfl rfl rfl (ok55) (hC _)) ?_)) | (refine kCallN 56 ?_; first | (refine LOps.ans (AnsL.callP rfl rfl rfl (ok56) (hD _)) ?_)))
      | (refine kWL ?_; first | (refine WL.seq ?_) | (refine WL.region (by kernel_rfl) ?_) | (refine WL.ret ?_) | (refine kCond ?_; first | (refine WL.condT rfl ?_)))
      | (refine lthen_n ?_)
      | (refine lthen_r ?_)
      | (refine LPost.r1 (r := .tmp 4) (.inl rfl) (Res1.tmp rfl) ?_)
      | (refine PureR.mk ?_)
    rfl
  have h2' : (d : Int) ≤ 24 := by omega
  rw [decide_eq_true h2]
  by_cases h3 : z ≤ 200
  case neg =>
    have h3' : ¬ (z : Int) ≤ 200 := by omega
    rw [decide_eq_false h3]
    refine LCalls.pure Tryz.func18 rfl (by kernel_rfl) (by simp) ?_
    repeat' first
      | (refine kOps ?_; first | (refine LOps.nil ?_) | (refine kG ?_; first | (refine LOps.gT rfl rfl rfl ?_) | (refine LOps.gD false rfl rfl rfl ?_ ?_; (focus (first | (simp only [decide_eq_true_eq, decide_eq_false_iff_not, Bool.not_eq_true', Bool.not_eq_false', Int.ofNat_lt, Int.ofNat_le, Int.ofNat_inj, not_true_eq_false, not_false_eq_true]; omega))))) | (refine LOps.ev tT_ok rfl ?_) | (refine kBox ?_; refine LOps.box rfl rfl rfl rfl ?_) | (refine kLoad ?_; first | (refine LOps.ans (AnsL.loadP tT_ok rfl rfl rfl rfl) ?_)) | (refine kCallN 55 ?_; first | (refine LOps.ans (AnsL.callP rfl rfl rfl (ok55) (hC _)) ?_)) | (refine kCallN 56 ?_; first | (refine LOps.ans (AnsL.callP rfl rfl rfl (ok56) (hD _)) ?_)) | (refine kCallN 57 ?_; first | (refine LOps.ans (AnsL.callP rfl rfl rfl (ok57) (hZ _)) ?_)))
      | (refine kWL ?_; first | (refine WL.seq ?_) | (refine WL.region (by kernel_rfl) ?_) | (refine WL.ret ?_) | (refine kCond ?_; first | (refine WL.condT' rfl ?_ ?_; (focus (first | (simp only [decide_eq_true_eq, decide_eq_false_iff_not, Bool.not_eq_true', Bool.not_eq_false', Int.ofNat_lt, Int.ofNat_le, Int.ofNat_inj, not_true_eq_false, not_false_eq_true]; omega))))))
      | (refine lthen_n ?_)
      | (refine lthen_r ?_)
      | (refine LPost.r1 (r := .tmp 4) (.inl rfl) (Res1.tmp rfl) ?_)
      | (refine PureR.mk ?_)
    rfl
  have h3' : (z : Int) ≤ 200 := by omega
  rw [decide_eq_true h3]
  generalize PE.tyP c [] p = o at hP ⊢
  cases o
  all_goals
    refine LCalls.pure Tryz.func18 rfl (by kernel_rfl) (by simp) ?_
    repeat' first
      | (refine kOps ?_; first | (refine LOps.nil ?_) | (refine kG ?_; first | (refine LOps.gT rfl rfl rfl ?_) | (refine LOps.gD false rfl rfl rfl ?_ ?_; (focus (first | (simp only [decide_eq_true_eq, decide_eq_false_iff_not, Bool.not_eq_true', Bool.not_eq_false', Int.ofNat_lt, Int.ofNat_le, Int.ofNat_inj, not_true_eq_false, not_false_eq_true]; omega))))) | (refine LOps.ev tT_ok rfl ?_) | (refine kBox ?_; refine LOps.box rfl rfl rfl rfl ?_) | (refine kLoad ?_; first | (refine LOps.ans (AnsL.loadP tT_ok rfl rfl rfl rfl) ?_)) | (refine kCallN 22 ?_; first | (refine LOps.ans (AnsL.callP rfl rfl rfl (ok22) (hP _)) ?_)) | (refine kCallN 55 ?_; first | (refine LOps.ans (AnsL.callP rfl rfl rfl (ok55) (hC _)) ?_)) | (refine kCallN 56 ?_; first | (refine LOps.ans (AnsL.callP rfl rfl rfl (ok56) (hD _)) ?_)) | (refine kCallN 57 ?_; first | (refine LOps.ans (AnsL.callP rfl rfl rfl (ok57) (hZ _)) ?_)))
      | (refine kWL ?_; first | (refine WL.seq ?_) | (refine WL.region (by kernel_rfl) ?_) | (refine WL.skip ?_) | (refine WL.ret ?_) | (refine kCond ?_; first | (refine WL.condF' rfl ?_ ?_; (focus (first | (simp only [decide_eq_true_eq, decide_eq_false_iff_not, Bool.not_eq_true', Bool.not_eq_false', Int.ofNat_lt, Int.ofNat_le, Int.ofNat_inj, not_true_eq_false, not_false_eq_true]; omega))))))
      | (refine lthen_n ?_)
      | (refine LPost.r1 (r := .tmp 4) (.inl rfl) (Res1.tmp rfl) ?_)
      | (refine PureR.mk ?_)
    rfl
theorem implWellTyped_v (c : Cat) (p : PL) (hc : c.wt ≤ 1048576) (hw : wgt p.v ≤ 1048576) (s : S) : VCalls Tryz.prog 20 [c.toV, p.v] s (fun v s' => v = .bool (wellB c p) ∧ s' = s) := by
  unfold wellB
  have hC := fun t => implCatalogOk_v c hc t
  have hD := fun t => implPlanDepth_v p hw t
  have hZ := fun t => implPlanSize_v p hw t
  have hP := fun t => (implPlanTypes_c c hc p hw).nil hw t
  generalize PE.msP (fun a b => max a b) p = d at hD ⊢
  generalize PE.msP (fun a b => a + b) p = z at hZ ⊢
  have hM := fun t => implisSmall_v d z t
  rw [← Bool.and_assoc (decide (d ≤ 24))]
  cases h1 : catOk c <;> rw [h1] at hC
  · skip
    refine LCalls.pure Tryz.func20 rfl (by kernel_rfl) (by simp) ?_
    repeat' first
      | (refine kOps ?_; first | (refine LOps.nil ?_) | (refine LOps.ev tT_ok rfl ?_) | (refine kBox ?_; refine LOps.box rfl rfl rfl rfl ?_))
      | (refine kWL ?_; first | (refine WL.seq ?_) | (refine WL.region (by kernel_rfl) ?_) | (refine WL.drawn (id := 1) [0, 1, 2, 3, 4, 5, 6, 7, 8, 9, 10] [] [[], [0], [0, 1], [0, 1, 2], [0, 1, 2, 3], [0, 1, 2, 3, 4], [0, 1, 2, 3], [0, 1, 2, 3, 4, 5, 6], [0, 1, 2, 3, 4, 5, 6, 7], [0, 1, 2, 3, 4, 5, 6, 7, 8], [0, 1, 2, 3, 4, 5, 6, 7, 8, 9]] (by kernel_rfl) (by kernel_rfl) ?_) | (refine WL.ret ?_) | (refine kCond ?_; first | (refine WL.condT rfl ?_)))
      | (refine kDr ?_; first | (refine LDr.nil ?_) | (refine LDr.fl rfl rfl (.ev tT_ok rfl) ?_) | (refine LDr.gF rfl rfl rfl rfl rfl ?_) | (refine kDLoad rfl ?_; first | (refine LDr.fl rfl rfl (AnsL.loadP tT_ok rfl rfl rfl rfl) ?_)) | (refine kDCallN 61 rfl ?_; first | (refine LDr.fl rfl rfl (AnsL.callP rfl rfl rfl (ok61) (hC _)) ?_)))
      | (refine lthen_n ?_)
      | (refine lthen_r ?_)
      | (refine LPost.r1 (r := .tmp 4) (.inl rfl) (Res1.tmp rfl) ?_)
      | (refine PureR.mk ?_)
    rfl
  cases h2 : (decide (d ≤ 24) && decide (z ≤ 200)) <;> rw [h2] at hM
  · skip
    refine LCalls.pure Tryz.func20 rfl (by kernel_rfl) (by simp) ?_
    repeat' first
      | (refine kOps ?_; first | (refine LOps.nil ?_) | (refine LOps.ev tT_ok rfl ?_) | (refine kBox ?_; refine LOps.box rfl rfl rfl rfl ?_))
      | (refine kWL ?_; first | (refine WL.seq ?_) | (refine WL.region (by kernel_rfl) ?_) | (refine WL.drawn (id := 1) [0, 1, 2, 3, 4, 5, 6, 7, 8, 9, 10] [] [[], [0], [0, 1], [0, 1, 2], [0, 1, 2, 3], [0, 1, 2, 3, 4], [0, 1, 2, 3], [0, 1, 2, 3, 4, 5, 6], [0, 1, 2, 3, 4, 5, 6, 7], [0, 1, 2, 3, 4, 5, 6, 7, 8], [0, 1, 2, 3, 4, 5, 6, 7, 8, 9]] (by kernel_rfl) (by kernel_rfl) ?_) | (refine WL.ret ?_) | (refine kCond ?_; first | (refine WL.condT rfl ?_)))
      | (refine kDr ?_; first | (refine LDr.nil ?_) | (refine LDr.fl rfl rfl (.ev tT_ok rfl) ?_) | (refine LDr.gT rfl rfl rfl rfl rfl (.ev tT_ok rfl) ?_) | (refine kDLoad rfl ?_; first | (refine LDr.fl rfl rfl (AnsL.loadP tT_ok rfl rfl rfl rfl) ?_) | (refine LDr.gT rfl rfl rfl rfl rfl (AnsL.loadP tT_ok rfl rfl rfl rfl) ?_)) | (refine kDCallN 61 rfl ?_; first | (refine LDr.fl rfl rfl (AnsL.callP rfl rfl rfl (ok61) (hC _)) ?_)) | (refine kDCallN 62 rfl ?_; first | (refine LDr.gT rfl rfl rfl rfl rfl (AnsL.callP rfl rfl rfl (ok62) (hM _)) ?_)) | (refine kDCallN 63 rfl ?_; first | (refine LDr.gT rfl rfl rfl rfl rfl (AnsL.callP rfl rfl rfl (ok63) (hD _)) ?_)) | (refine kDCallN 64 rfl ?_; first | (refine LDr.gT rfl rfl rfl rfl rfl (AnsL.callP rfl rfl rfl (ok64) (hZ _)) ?_)))
      | (refine lthen_n ?_)
      | (refine lthen_r ?_)
      | (refine LPost.r1 (r := .tmp 4) (.inl rfl) (Res1.tmp rfl) ?_)
      | (refine PureR.mk ?_)
    rfl
  generalize PE.tyP c [] p = o at hP ⊢
  cases o
  all_goals
    refine LCalls.pure Tryz.func20 rfl (by kernel_rfl) (by simp) ?_
    repeat' first
      | (refine kOps ?_; first | (refine LOps.nil ?_) | (refine LOps.ev tT_ok rfl ?_) | (refine kBox ?_; refine LOps.box rfl rfl rfl rfl ?_) | (refine kLoad ?_; first | (refine LOps.ans (AnsL.loadP tT_ok rfl rfl rfl rfl) ?_)) | (refine kCallN 23 ?_; first | (refine LOps.ans (AnsL.callP rfl rfl rfl (ok23) (hP _)) ?_)))
      | (refine kWL ?_; first | (refine WL.seq ?_) | (refine WL.region (by kernel_rfl) ?_) | (refine WL.drawn (id := 1) [0, 1, 2, 3, 4, 5, 6, 7, 8, 9, 10] [] [[], [0], [0, 1], [0, 1, 2], [0, 1, 2, 3], [0, 1, 2, 3, 4], [0, 1, 2, 3], [0, 1, 2, 3, 4, 5, 6], [0, 1, 2, 3, 4, 5, 6, 7], [0, 1, 2, 3, 4, 5, 6, 7, 8], [0, 1, 2, 3, 4, 5, 6, 7, 8, 9]] (by kernel_rfl) (by kernel_rfl) ?_) | (refine WL.skip ?_) | (refine WL.ret ?_) | (refine kCond ?_; first | (refine WL.condF rfl ?_)))
      | (refine kDr ?_; first | (refine LDr.nil ?_) | (refine LDr.fl rfl rfl (.ev tT_ok rfl) ?_) | (refine LDr.gT rfl rfl rfl rfl rfl (.ev tT_ok rfl) ?_) | (refine kDLoad rfl ?_; first | (refine LDr.fl rfl rfl (AnsL.loadP tT_ok rfl rfl rfl rfl) ?_) | (refine LDr.gT rfl rfl rfl rfl rfl (AnsL.loadP tT_ok rfl rfl rfl rfl) ?_)) | (refine kDCallN 61 rfl ?_; first | (refine LDr.fl rfl rfl (AnsL.callP rfl rfl rfl (ok61) (hC _)) ?_)) | (refine kDCallN 62 rfl ?_; first | (refine LDr.gT rfl rfl rfl rfl rfl (AnsL.callP rfl rfl rfl (ok62) (hM _)) ?_)) | (refine kDCallN 63 rfl ?_; first | (refine LDr.gT rfl rfl rfl rfl rfl (AnsL.callP rfl rfl rfl (ok63) (hD _)) ?_)) | (refine kDCallN 64 rfl ?_; first | (refine LDr.gT rfl rfl rfl rfl rfl (AnsL.callP rfl rfl rfl (ok64) (hZ _)) ?_)))
      | (refine lthen_n ?_)
      | (refine LPost.r1 (r := .tmp 4) (.inl rfl) (Res1.tmp rfl) ?_)
      | (refine PureR.mk ?_)
    rfl
set_option maxHeartbeats 4000000 in
theorem lawWellTyped_v (x : Cat) (p : PL) (s : S) : VCalls Tryz.prog 4 [x.toV, p.v] s (fun v _ => v = .bool true) := by
  obtain ⟨w, hw⟩ : ∃ w, wgt p.v = w := ⟨_, rfl⟩
  refine LCalls.body Tryz.func4 rfl (by kernel_rfl) ?_
  by_cases hb : 1048576 < x.wt
  · skip
    repeat' first
      | (refine kOps ?_; first | (refine LOps.nil ?_) | (refine LOps.ev tT_ok rfl ?_) | (refine kBox ?_; refine LOps.box rfl rfl rfl rfl ?_) | (refine kLoad ?_; first | (refine LOps.ans (AnsL.loadP tT_ok rfl rfl rfl rfl) ?_)) | (refine kCallN 6 ?_; first | (refine LOps.ans (AnsL.callP rfl rfl rfl (ok6) (szCat_no _ _ ?_ ?_ ?_ _)) ?_; (focus (omega)); (focus (omega)); (focus (omega)))))
      | (refine kWL ?_; first | (refine WL.seq ?_) | (refine WL.region (by kernel_rfl) ?_) | (refine WL.ret ?_) | (refine kCond ?_; first | (refine WL.condT rfl ?_)))
      | (refine lthen_n ?_)
      | (refine lthen_r ?_)
      | (refine LPost.r1 (r := .tmp 4) (.inl rfl) (Res1.tmp rfl) ?_)
    rfl
  by_cases hb3 : (1048576 : Int) - x.wt < w
  · skip
    repeat' first
      | (refine kOps ?_; first | (refine LOps.nil ?_) | (refine LOps.ev tT_ok rfl ?_) | (refine kBox ?_; refine LOps.box rfl rfl rfl rfl ?_) | (refine kLoad ?_; first | (refine LOps.ans (AnsL.loadP tT_ok rfl rfl rfl rfl) ?_)) | (refine kCallN 17 ?_; first | (refine LOps.ans (AnsL.callP rfl rfl rfl (ok17) ((szPlan_c p).noW2 hw ?_ ?_ ?_ _)) ?_; (focus (omega)); (focus (omega)); (focus (omega)))) | (refine kCallN 6 ?_; first | (refine LOps.ans (AnsL.callP rfl rfl rfl (ok6) (szCat_ok _ _ ?_ ?_ _)) ?_; (focus (omega)); (focus (omega)))))
      | (refine kWL ?_; first | (refine WL.seq ?_) | (refine WL.region (by kernel_rfl) ?_) | (refine WL.skip ?_) | (refine WL.ret ?_) | (refine kCond ?_; first | (refine WL.condT rfl ?_) | (refine WL.condF' rfl ?_ ?_; (focus (first | (simp only [decide_eq_true_eq, decide_eq_false_iff_not, Bool.not_eq_true', Bool.not_eq_false', Int.ofNat_lt, Int.ofNat_le, Int.ofNat_inj, not_true_eq_false, not_false_eq_true]; omega))))))
      | (refine lthen_n ?_)
      | (refine lthen_r ?_)
      | (refine LPost.r1 (r := .tmp 4) (.inl rfl) (Res1.tmp rfl) ?_)
    rfl
  have hS := fun t => specWellTyped_v x p (by omega) (by omega) t
  have hI := fun t => implWellTyped_v x p (by omega) (by omega) t
  generalize wellB x p = b at hS hI
  cases b
  all_goals
    repeat' first
      | (refine kOps ?_; first | (refine LOps.nil ?_) | (refine kStore ?_; refine LOps.storeP tT_ok rfl rfl rfl rfl rfl rfl rfl rfl rfl ?_) | (refine LOps.ev tT_ok rfl ?_) | (refine kBox ?_; refine LOps.box rfl rfl rfl rfl ?_) | (refine kAlloc ?_; refine LOps.alloc tT_ok rfl rfl rfl rfl ?_) | (refine kLoad ?_; first | (refine LOps.ans (AnsL.loadP tT_ok rfl rfl rfl rfl) ?_)) | (refine kCallN 10 ?_; first | (refine LOps.ans (AnsL.callP rfl rfl rfl (ok10) (toCat_v _ ?_ _)) ?_; (focus (omega)))) | (refine kCallN 17 ?_; first | (refine LOps.ans (AnsL.callP rfl rfl rfl (ok17) ((szPlan_c p).okW2 hw ?_ ?_ _)) ?_; (focus (omega)); (focus (omega)))) | (refine kCallN 19 ?_; first | (refine LOps.ans (AnsL.callP rfl rfl rfl (ok19) ((toPlan_c p (by omega)).pure (PL.plain p) _)) ?_)) | (refine kCallN 20 ?_; first | (refine LOps.ans (AnsL.callP rfl rfl rfl (ok20) (hI _)) ?_)) | (refine kCallN 6 ?_; first | (refine LOps.ans (AnsL.callP rfl rfl rfl (ok6) (szCat_ok _ _ ?_ ?_ _)) ?_; (focus (omega)); (focus (omega)))))
      | (refine kWL ?_; first | (refine WL.seq ?_) | (refine WL.region (by kernel_rfl) ?_) | (refine WL.drawn (id := 8) [0, 1, 2, 3, 4, 5] [] [[], [0], [], [0, 1, 2], [0, 1, 2, 3], [0, 1, 2, 3, 4]] (by kernel_rfl) (by kernel_rfl) ?_) | (refine WL.drawn (id := 14) [0, 1, 2, 3, 4] [] [[], [], [1], [0, 1, 2], [0, 1, 2, 3]] (by kernel_rfl) (by kernel_rfl) ?_) | (refine WL.drawn (id := 16) [0, 1, 2, 3, 4] [] [[], [], [1], [0, 1, 2], [0, 1, 2, 3]] (by kernel_rfl) (by kernel_rfl) ?_) | (refine WL.skip ?_) | (refine WL.ret ?_) | (refine kCond ?_; first | (refine WL.condF rfl ?_) | (refine WL.condF' rfl ?_ ?_; (focus (first | (simp only [decide_eq_true_eq, decide_eq_false_iff_not, Bool.not_eq_true', Bool.not_eq_false', Int.ofNat_lt, Int.ofNat_le, Int.ofNat_inj, not_true_eq_false, not_false_eq_true]; omega))))))
      | (refine kDr ?_; first | (refine LDr.nil ?_) | (refine LDr.fl rfl rfl (.ev tT_ok rfl) ?_) | (refine kDLoad rfl ?_; first | (refine LDr.fl rfl rfl (AnsL.loadP tT_ok rfl rfl rfl rfl) ?_)) | (refine kDCallN 10 rfl ?_; first | (refine LDr.fl rfl rfl (AnsL.callP rfl rfl rfl (ok10) (toCat_v _ ?_ _)) ?_; (focus (omega)))) | (refine kDCallN 14 rfl ?_; first | (refine LDr.fl rfl rfl (AnsL.callP rfl rfl rfl (ok14) (eqCat_v _ ?_ _)) ?_; (focus (omega)))) | (refine kDCallN 18 rfl ?_; first | (refine LDr.fl rfl rfl (AnsL.callP rfl rfl rfl (ok18) (hS _)) ?_)) | (refine kDCallN 19 rfl ?_; first | (refine LDr.fl rfl rfl (AnsL.callP rfl rfl rfl (ok19) ((toPlan_c p (by omega)).pure (PL.plain p) _)) ?_)) | (refine kDCallN 21 rfl ?_; first | (refine LDr.fl rfl rfl (AnsL.callP rfl rfl rfl (ok21) (eqPlan_c p (by omega) _)) ?_)))
      | (refine lthen_n ?_)
      | (refine LPost.r1 (r := .tmp 4) (.inl rfl) (Res1.tmp rfl) ?_)
    rfl

end Go.Proofs.YtehmlklfbllgcaaGreat
