/-
  Resolved statements: values, copies, sizes and comparisons, of the program and of the reference, and the law. Printed by a program of our own; no condition.
-/
import Derived.Test.YtejdgmdebfkkeaaDPSame
import Derived.Test.YtejdgmdebfkkeaaDPHas
import Derived.Test.YtejdgmdebfkkeaaDRecP
namespace Go.Proofs.Ytejdgmdebfkkeaa
open Go
set_option linter.unusedSimpArgs false
set_option linter.unusedVariables false

structure SPl where
  kind : Int
  plan : PL
  table : Int
  rows : List (List PE)
  cols : List Int
  sets : List PE
  wher : List PE

def SP.v (x : SPl) : V := .agg [.int .i64 x.kind, .sl 0 (x.plan.tables.map iV), .sl 0 (x.plan.on.map PE.vS), .sl 0 (x.plan.wher.map PE.toV), .sl 0 (x.plan.order.map PE.sv), .sl 0 (x.plan.items.map PE.toV), .sl 0 (x.plan.names.map sV), .bool x.plan.distinct, .int .i64 x.plan.limit, .int .i64 x.table, .sl 0 (x.rows.map PE.vS), .sl 0 (x.cols.map iV), .sl 0 (x.sets.map PE.toV), .sl 0 (x.wher.map PE.toV)]
theorem SP.plain (x : SPl) : (SP.v x).plain = true := plainL_cons (rfl) (plainL_cons (plain_IntS _) (plainL_cons (plain_PExprSS _) (plainL_cons (plain_PExprS _) (plainL_cons (plain_PSortS _) (plainL_cons (plain_PExprS _) (plainL_cons (plain_StringS _) (plainL_cons (rfl) (plainL_cons (rfl) (plainL_cons (rfl) (plainL_cons (plain_PExprSS _) (plainL_cons (plain_IntS _) (plainL_cons (plain_PExprS _) (plainL_cons (plain_PExprS _) (rfl))))))))))))))
theorem SP.wgt_eq (x : SPl) : wgt (SP.v x) = wgt (PL.v x.plan) + wgt (.sl 0 (x.rows.map PE.vS)) + wgt (.sl 0 (x.cols.map iV)) + wgt (.sl 0 (x.sets.map PE.toV)) + wgt (.sl 0 (x.wher.map PE.toV)) := by
  simp only [SP.v, PL.v, wgt, wgtL]; omega
theorem PL.thw_v (m : Nat) (p : PL) : (thw m (PL.v p)).1 = .agg [(thw (m) (.sl 0 (p.tables.map iV))).1, (thw (m + cv (.sl 0 (p.tables.map iV))) (.sl 0 (p.on.map PE.vS))).1, (thw (m + cv (.sl 0 (p.tables.map iV)) + cv (.sl 0 (p.on.map PE.vS))) (.sl 0 (p.wher.map PE.toV))).1, (thw (m + cv (.sl 0 (p.tables.map iV)) + cv (.sl 0 (p.on.map PE.vS)) + cv (.sl 0 (p.wher.map PE.toV))) (.sl 0 (p.order.map PE.sv))).1, (thw (m + cv (.sl 0 (p.tables.map iV)) + cv (.sl 0 (p.on.map PE.vS)) + cv (.sl 0 (p.wher.map PE.toV)) + cv (.sl 0 (p.order.map PE.sv))) (.sl 0 (p.items.map PE.toV))).1, (thw (m + cv (.sl 0 (p.tables.map iV)) + cv (.sl 0 (p.on.map PE.vS)) + cv (.sl 0 (p.wher.map PE.toV)) + cv (.sl 0 (p.order.map PE.sv)) + cv (.sl 0 (p.items.map PE.toV))) (.sl 0 (p.names.map sV))).1, .bool p.distinct, .int .i64 p.limit] := by
  simp only [PL.v, thw_agg, thwL_nil, thwL_int, thwL_str, thwL_bool, thwL_sl]
theorem SzC.okw {P : Program} {g : FuncId} {d : V} (h : SzC P g d) {w : Nat} (e : wgt d = w) {left : Int} (h1 : left ≤ 1048576) (h2 : (w : Int) ≤ left) (s : S) : VCalls P g [d, .int .i64 left] s (fun v s' => v = .int .i64 (left - (w : Nat)) ∧ s' = s) := by
  subst e; exact h.ok h1 h2 s
theorem SzC.now {P : Program} {g : FuncId} {d : V} (h : SzC P g d) {w : Nat} (e : wgt d = w) {left : Int} (h0 : 0 ≤ left) (h1 : left ≤ 1048576) (h2 : left < (w : Int)) (s : S) : VCalls P g [d, .int .i64 left] s (fun v s' => v = .int .i64 (-1) ∧ s' = s) := by
  subst e; exact h.no h0 h1 h2 s
theorem toSPlan_r (x : SPl) (h0 : ToC Try.prog 45 (PL.v x.plan)) (h1 : ToC Try.prog 119 (.sl 0 (x.rows.map PE.vS))) (h2 : ToC Try.prog 118 (.sl 0 (x.cols.map iV))) (h3 : ToC Try.prog 120 (.sl 0 (x.sets.map PE.toV))) (h4 : ToC Try.prog 120 (.sl 0 (x.wher.map PE.toV))) : ToC Try.prog 55 (SP.v x) := by
  intro s
  refine LCalls.body Try.func55 rfl (by kernel_rfl) ?_
  repeat' first
    | (refine kCallN 45 ?_ ; refine LOps.lendE (m := s.next + 3) rfl rfl ok45 ?_ h0 ?_ (PL.thw_v _ _) ?_ ; (focus (exact plainL_cons (PL.plain _) rfl)) ; (focus (first | rfl | (simp only [List.append_eq, List.nil_append, List.length_append, List.length_cons, List.length_nil, thawed_length] ; omega))))
    | (refine kCallN 119 ?_ ; refine LOps.lendE (m := s.next + 3 + cv (PL.v x.plan)) rfl rfl ok119 ?_ h1 ?_ (rfl) ?_ ; (focus (exact plainL_cons (plain_PExprSS _) rfl)) ; (focus (first | rfl | (simp only [List.append_eq, List.nil_append, List.length_append, List.length_cons, List.length_nil, thawed_length] ; omega))))
    | (refine kCallN 118 ?_ ; refine LOps.lendE (m := s.next + 3 + cv (PL.v x.plan) + cv (.sl 0 (x.rows.map PE.vS))) rfl rfl ok118 ?_ h2 ?_ (rfl) ?_ ; (focus (exact plainL_cons (plain_IntS _) rfl)) ; (focus (first | rfl | (simp only [List.append_eq, List.nil_append, List.length_append, List.length_cons, List.length_nil, thawed_length] ; omega))))
    | (refine kCallN 120 ?_ ; refine LOps.lendE (m := s.next + 3 + cv (PL.v x.plan) + cv (.sl 0 (x.rows.map PE.vS)) + cv (.sl 0 (x.cols.map iV))) rfl rfl ok120 ?_ h3 ?_ (rfl) ?_ ; (focus (exact plainL_cons (plain_PExprS _) rfl)) ; (focus (first | rfl | (simp only [List.append_eq, List.nil_append, List.length_append, List.length_cons, List.length_nil, thawed_length] ; omega))))
    | (refine kCallN 120 ?_ ; refine LOps.lendE (m := s.next + 3 + cv (PL.v x.plan) + cv (.sl 0 (x.rows.map PE.vS)) + cv (.sl 0 (x.cols.map iV)) + cv (.sl 0 (x.sets.map PE.toV))) rfl rfl ok120 ?_ h4 ?_ (rfl) ?_ ; (focus (exact plainL_cons (plain_PExprS _) rfl)) ; (focus (first | rfl | (simp only [List.append_eq, List.nil_append, List.length_append, List.length_cons, List.length_nil, thawed_length] ; omega))))
    | (refine kStore ?_ ; first | (refine LOps.storeP tT_ok rfl rfl rfl rfl rfl rfl rfl rfl rfl ?_) | (refine LOps.storeP tT_ok rfl rfl rfl rfl (thw_cellsO _ _ _) (thw_onesO _ _ _) rfl rfl rfl ?_) | (refine LOps.storeP tT_ok rfl rfl rfl rfl rfl ?_ rfl rfl rfl ?_ ; (focus (repeat' first | exact rfl | (refine ones_cons (thw_one _ _ _) ?_) | (refine ones_cons rfl ?_)))))
    | (refine kOps ?_; first | (refine LOps.nil ?_) | (refine kStore ?_; refine LOps.storeP tT_ok rfl rfl rfl rfl rfl rfl rfl rfl rfl ?_) | (refine LOps.ev tT_ok rfl ?_) | (refine kBox ?_; refine LOps.box rfl rfl rfl rfl ?_) | (refine kAlloc ?_; refine LOps.alloc tT_ok rfl rfl rfl rfl ?_) | (refine kLoad ?_; first | (refine LOps.ans (AnsL.loadP tT_ok rfl rfl rfl rfl) ?_)))
    | (refine kWL ?_; first | (refine WL.seq ?_) | (refine WL.region (by kernel_rfl) ?_) | (refine WL.skip ?_) | (refine WL.ret ?_) | (refine kCond ?_; first | (refine WL.condT rfl ?_) | (refine WL.condF rfl ?_) | (refine WL.condT' rfl ?_ ?_; (focus (first | (assumption) | (exact decide_eq_true (by assumption)) | (exact decide_eq_false (by assumption)) | (simp only [decide_eq_true_eq, decide_eq_false_iff_not, Bool.not_eq_true', Bool.not_eq_false', Int.ofNat_lt, Int.ofNat_le, Int.ofNat_inj, not_true_eq_false, not_false_eq_true]; omega) | (simp <;> fail)))) | (refine WL.condF' rfl ?_ ?_; (focus (first | (assumption) | (exact decide_eq_true (by assumption)) | (exact decide_eq_false (by assumption)) | (simp only [decide_eq_true_eq, decide_eq_false_iff_not, Bool.not_eq_true', Bool.not_eq_false', Int.ofNat_lt, Int.ofNat_le, Int.ofNat_inj, not_true_eq_false, not_false_eq_true]; omega) | (simp <;> fail)))) | (refine WL.cond rfl (fun h => ?_) (fun h => ?_))))
    | (refine lthen_n ?_)
    | (refine lthen_r ?_)
    | (refine lback_r ?_)
    | (refine lback_e ?_)
    | (refine lbackD_r ?_)
    | (refine lbackD_e ?_)
    | (refine lbackH_r ?_)
    | (refine lbackH_e ?_)
    | (refine LPost.r1 (r := .cell 2 95) (.inl rfl) (Res1.cell tT_ok rfl rfl rfl rfl) ?_)
    | (refine PureR.mk ?_)
    | (refine' LPost.r1 (r := .cell 2 95) (.inl rfl) ?_ ?_; rotate_left 1; (focus (first | exact Res1.cellH 0 tT_ok hh rfl rfl rfl rfl | exact Res1.cellH 1 tT_ok hh rfl rfl rfl rfl | exact Res1.cellH 2 tT_ok hh rfl rfl rfl rfl | exact Res1.cellH 3 tT_ok hh rfl rfl rfl rfl | exact Res1.cellH 4 tT_ok hh rfl rfl rfl rfl | exact Res1.cellH 5 tT_ok hh rfl rfl rfl rfl | exact Res1.cellH 6 tT_ok hh rfl rfl rfl rfl | exact Res1.cellH 7 tT_ok hh rfl rfl rfl rfl | exact Res1.cellHW 0 tT_ok hh rfl rfl rfl rfl | exact Res1.cellHW 1 tT_ok hh rfl rfl rfl rfl | exact Res1.cellHW 2 tT_ok hh rfl rfl rfl rfl | exact Res1.cellHW 3 tT_ok hh rfl rfl rfl rfl | exact Res1.cellHW 4 tT_ok hh rfl rfl rfl rfl | exact Res1.cellHW 5 tT_ok hh rfl rfl rfl rfl | exact Res1.cellHW 6 tT_ok hh rfl rfl rfl rfl | exact Res1.cellHW 7 tT_ok hh rfl rfl rfl rfl)))
  have hth : thawed (s.next + 3) (SP.v x) = thawed (s.next + 3) (PL.v x.plan) ++ thawed (s.next + 3 + cv (PL.v x.plan)) (.sl 0 (x.rows.map PE.vS)) ++ thawed (s.next + 3 + cv (PL.v x.plan) + cv (.sl 0 (x.rows.map PE.vS))) (.sl 0 (x.cols.map iV)) ++ thawed (s.next + 3 + cv (PL.v x.plan) + cv (.sl 0 (x.rows.map PE.vS)) + cv (.sl 0 (x.cols.map iV))) (.sl 0 (x.sets.map PE.toV)) ++ thawed (s.next + 3 + cv (PL.v x.plan) + cv (.sl 0 (x.rows.map PE.vS)) + cv (.sl 0 (x.cols.map iV)) + cv (.sl 0 (x.sets.map PE.toV))) (.sl 0 (x.wher.map PE.toV)) := by simp only [thawed, SP.v, PL.v, thw_agg, thwL_nil, thwL_int, thwL_str, thwL_bool, thwL_sl, List.map_append, List.append_assoc, List.append_nil, List.nil_append, cv, cvL, Nat.add_zero, Nat.zero_add, Nat.add_assoc]
  refine Own2.thwK 3 (m := s.next + 3) (SP.plain x) ?_ rfl (by simp only [List.length_cons]; omega) ?_
  · simp only [SP.v, PL.v, thw_agg, thwL_nil, thwL_int, thwL_str, thwL_bool, thwL_sl, cv, cvL, Nat.add_zero, Nat.zero_add, Nat.add_assoc]
  · rw [hth]; rfl
set_option maxHeartbeats 4000000 in
theorem szSPlan_r (x : SPl) (h0 : SzC Try.prog 43 (PL.v x.plan)) (h1 : SzC Try.prog 113 (.sl 0 (x.rows.map PE.vS))) (h2 : SzC Try.prog 112 (.sl 0 (x.cols.map iV))) (h3 : SzC Try.prog 114 (.sl 0 (x.sets.map PE.toV))) (h4 : SzC Try.prog 114 (.sl 0 (x.wher.map PE.toV))) : SzC Try.prog 53 (SP.v x) := by
  intro left s g0 g1
  refine VCalls.wf fun hwf => ?_
  have hmx := len_max
  have hw := SP.wgt_eq x
  obtain ⟨w0, hw0⟩ : ∃ w, wgt (PL.v x.plan) = w := ⟨_, rfl⟩
  obtain ⟨w1, hw1⟩ : ∃ w, wgt (.sl 0 (x.rows.map PE.vS)) = w := ⟨_, rfl⟩
  obtain ⟨w2, hw2⟩ : ∃ w, wgt (.sl 0 (x.cols.map iV)) = w := ⟨_, rfl⟩
  obtain ⟨w3, hw3⟩ : ∃ w, wgt (.sl 0 (x.sets.map PE.toV)) = w := ⟨_, rfl⟩
  obtain ⟨w4, hw4⟩ : ∃ w, wgt (.sl 0 (x.wher.map PE.toV)) = w := ⟨_, rfl⟩
  obtain ⟨wx, hwx⟩ : ∃ w, wgt (SP.v x) = w := ⟨_, rfl⟩
  rw [hwx] at hw ⊢
  rw [hw0, hw1, hw2, hw3, hw4] at hw
  skip
  refine LCalls.pure Try.func53 rfl (by kernel_rfl) (by simp) ?_
  by_cases c0 : left - (w0 : Nat) < 0
  · skip
    repeat' first
      | (refine kOps ?_; first | (refine LOps.nil ?_) | (refine LOps.ev tT_ok rfl ?_) | (refine kBox ?_; refine LOps.box rfl rfl rfl rfl ?_) | (refine kLoad ?_; first | (refine LOps.ans (AnsL.loadP tT_ok rfl rfl rfl rfl) ?_)) | (refine kCallN 112 ?_; first | (refine LOps.ans (AnsL.callP rfl rfl rfl (ok112) (h2.okw hw2 ?_ ?_ _)) ?_; (focus (omega)); (focus (omega))) | (refine LOps.ans (AnsL.callP rfl rfl rfl (ok112) (h2.now hw2 ?_ ?_ ?_ _)) ?_; (focus (omega)); (focus (omega)); (focus (omega)))) | (refine kCallN 113 ?_; first | (refine LOps.ans (AnsL.callP rfl rfl rfl (ok113) (h1.okw hw1 ?_ ?_ _)) ?_; (focus (omega)); (focus (omega))) | (refine LOps.ans (AnsL.callP rfl rfl rfl (ok113) (h1.now hw1 ?_ ?_ ?_ _)) ?_; (focus (omega)); (focus (omega)); (focus (omega)))) | (refine kCallN 114 ?_; first | (refine LOps.ans (AnsL.callP rfl rfl rfl (ok114) (h3.okw hw3 ?_ ?_ _)) ?_; (focus (omega)); (focus (omega))) | (refine LOps.ans (AnsL.callP rfl rfl rfl (ok114) (h3.now hw3 ?_ ?_ ?_ _)) ?_; (focus (omega)); (focus (omega)); (focus (omega))) | (refine LOps.ans (AnsL.callP rfl rfl rfl (ok114) (h4.okw hw4 ?_ ?_ _)) ?_; (focus (omega)); (focus (omega))) | (refine LOps.ans (AnsL.callP rfl rfl rfl (ok114) (h4.now hw4 ?_ ?_ ?_ _)) ?_; (focus (omega)); (focus (omega)); (focus (omega)))) | (refine kCallN 43 ?_; first | (refine LOps.ans (AnsL.callP rfl rfl rfl (ok43) (h0.okw hw0 ?_ ?_ _)) ?_; (focus (omega)); (focus (omega))) | (refine LOps.ans (AnsL.callP rfl rfl rfl (ok43) (h0.now hw0 ?_ ?_ ?_ _)) ?_; (focus (omega)); (focus (omega)); (focus (omega)))))
      | (refine kWL ?_; first | (refine WL.seq ?_) | (refine WL.region (by kernel_rfl) ?_) | (refine WL.skip ?_) | (refine WL.ret ?_) | (refine kCond ?_; first | (refine WL.condT rfl ?_) | (refine WL.condF rfl ?_) | (refine WL.condT' rfl ?_ ?_; (focus (first | (assumption) | (exact decide_eq_true (by assumption)) | (exact decide_eq_false (by assumption)) | (simp only [decide_eq_true_eq, decide_eq_false_iff_not, Bool.not_eq_true', Bool.not_eq_false', Int.ofNat_lt, Int.ofNat_le, Int.ofNat_inj, not_true_eq_false, not_false_eq_true]; omega) | (simp <;> fail)))) | (refine WL.condF' rfl ?_ ?_; (focus (first | (assumption) | (exact decide_eq_true (by assumption)) | (exact decide_eq_false (by assumption)) | (simp only [decide_eq_true_eq, decide_eq_false_iff_not, Bool.not_eq_true', Bool.not_eq_false', Int.ofNat_lt, Int.ofNat_le, Int.ofNat_inj, not_true_eq_false, not_false_eq_true]; omega) | (simp <;> fail)))) | (refine WL.cond rfl (fun h => ?_) (fun h => ?_))))
      | (refine lthen_n ?_)
      | (refine lthen_r ?_)
      | (refine lback_r ?_)
      | (refine lback_e ?_)
      | (refine lbackD_r ?_)
      | (refine lbackD_e ?_)
      | (refine lbackH_r ?_)
      | (refine lbackH_e ?_)
      | (refine LPost.r1 (r := .tmp 4) (.inl rfl) (Res1.tmp rfl) ?_)
      | (refine PureR.mk ?_)
    show V.int .i64 (-1) = _; rw [szI_neg (by omega)]
  by_cases c1 : left - (w0 : Nat) - (w1 : Nat) < 0
  · skip
    repeat' first
      | (refine kOps ?_; first | (refine LOps.nil ?_) | (refine LOps.ev tT_ok rfl ?_) | (refine kBox ?_; refine LOps.box rfl rfl rfl rfl ?_) | (refine kLoad ?_; first | (refine LOps.ans (AnsL.loadP tT_ok rfl rfl rfl rfl) ?_)) | (refine kCallN 112 ?_; first | (refine LOps.ans (AnsL.callP rfl rfl rfl (ok112) (h2.okw hw2 ?_ ?_ _)) ?_; (focus (omega)); (focus (omega))) | (refine LOps.ans (AnsL.callP rfl rfl rfl (ok112) (h2.now hw2 ?_ ?_ ?_ _)) ?_; (focus (omega)); (focus (omega)); (focus (omega)))) | (refine kCallN 113 ?_; first | (refine LOps.ans (AnsL.callP rfl rfl rfl (ok113) (h1.okw hw1 ?_ ?_ _)) ?_; (focus (omega)); (focus (omega))) | (refine LOps.ans (AnsL.callP rfl rfl rfl (ok113) (h1.now hw1 ?_ ?_ ?_ _)) ?_; (focus (omega)); (focus (omega)); (focus (omega)))) | (refine kCallN 114 ?_; first | (refine LOps.ans (AnsL.callP rfl rfl rfl (ok114) (h3.okw hw3 ?_ ?_ _)) ?_; (focus (omega)); (focus (omega))) | (refine LOps.ans (AnsL.callP rfl rfl rfl (ok114) (h3.now hw3 ?_ ?_ ?_ _)) ?_; (focus (omega)); (focus (omega)); (focus (omega))) | (refine LOps.ans (AnsL.callP rfl rfl rfl (ok114) (h4.okw hw4 ?_ ?_ _)) ?_; (focus (omega)); (focus (omega))) | (refine LOps.ans (AnsL.callP rfl rfl rfl (ok114) (h4.now hw4 ?_ ?_ ?_ _)) ?_; (focus (omega)); (focus (omega)); (focus (omega)))) | (refine kCallN 43 ?_; first | (refine LOps.ans (AnsL.callP rfl rfl rfl (ok43) (h0.okw hw0 ?_ ?_ _)) ?_; (focus (omega)); (focus (omega))) | (refine LOps.ans (AnsL.callP rfl rfl rfl (ok43) (h0.now hw0 ?_ ?_ ?_ _)) ?_; (focus (omega)); (focus (omega)); (focus (omega)))))
      | (refine kWL ?_; first | (refine WL.seq ?_) | (refine WL.region (by kernel_rfl) ?_) | (refine WL.skip ?_) | (refine WL.ret ?_) | (refine kCond ?_; first | (refine WL.condT rfl ?_) | (refine WL.condF rfl ?_) | (refine WL.condT' rfl ?_ ?_; (focus (first | (assumption) | (exact decide_eq_true (by assumption)) | (exact decide_eq_false (by assumption)) | (simp only [decide_eq_true_eq, decide_eq_false_iff_not, Bool.not_eq_true', Bool.not_eq_false', Int.ofNat_lt, Int.ofNat_le, Int.ofNat_inj, not_true_eq_false, not_false_eq_true]; omega) | (simp <;> fail)))) | (refine WL.condF' rfl ?_ ?_; (focus (first | (assumption) | (exact decide_eq_true (by assumption)) | (exact decide_eq_false (by assumption)) | (simp only [decide_eq_true_eq, decide_eq_false_iff_not, Bool.not_eq_true', Bool.not_eq_false', Int.ofNat_lt, Int.ofNat_le, Int.ofNat_inj, not_true_eq_false, not_false_eq_true]; omega) | (simp <;> fail)))) | (refine WL.cond rfl (fun h => ?_) (fun h => ?_))))
      | (refine lthen_n ?_)
      | (refine lthen_r ?_)
      | (refine lback_r ?_)
      | (refine lback_e ?_)
      | (refine lbackD_r ?_)
      | (refine lbackD_e ?_)
      | (refine lbackH_r ?_)
      | (refine lbackH_e ?_)
      | (refine LPost.r1 (r := .tmp 4) (.inl rfl) (Res1.tmp rfl) ?_)
      | (refine PureR.mk ?_)
    show V.int .i64 (-1) = _; rw [szI_neg (by omega)]
  by_cases c2 : left - (w0 : Nat) - (w1 : Nat) - (w2 : Nat) < 0
  · skip
    repeat' first
      | (refine kOps ?_; first | (refine LOps.nil ?_) | (refine LOps.ev tT_ok rfl ?_) | (refine kBox ?_; refine LOps.box rfl rfl rfl rfl ?_) | (refine kLoad ?_; first | (refine LOps.ans (AnsL.loadP tT_ok rfl rfl rfl rfl) ?_)) | (refine kCallN 112 ?_; first | (refine LOps.ans (AnsL.callP rfl rfl rfl (ok112) (h2.okw hw2 ?_ ?_ _)) ?_; (focus (omega)); (focus (omega))) | (refine LOps.ans (AnsL.callP rfl rfl rfl (ok112) (h2.now hw2 ?_ ?_ ?_ _)) ?_; (focus (omega)); (focus (omega)); (focus (omega)))) | (refine kCallN 113 ?_; first | (refine LOps.ans (AnsL.callP rfl rfl rfl (ok113) (h1.okw hw1 ?_ ?_ _)) ?_; (focus (omega)); (focus (omega))) | (refine LOps.ans (AnsL.callP rfl rfl rfl (ok113) (h1.now hw1 ?_ ?_ ?_ _)) ?_; (focus (omega)); (focus (omega)); (focus (omega)))) | (refine kCallN 114 ?_; first | (refine LOps.ans (AnsL.callP rfl rfl rfl (ok114) (h3.okw hw3 ?_ ?_ _)) ?_; (focus (omega)); (focus (omega))) | (refine LOps.ans (AnsL.callP rfl rfl rfl (ok114) (h3.now hw3 ?_ ?_ ?_ _)) ?_; (focus (omega)); (focus (omega)); (focus (omega))) | (refine LOps.ans (AnsL.callP rfl rfl rfl (ok114) (h4.okw hw4 ?_ ?_ _)) ?_; (focus (omega)); (focus (omega))) | (refine LOps.ans (AnsL.callP rfl rfl rfl (ok114) (h4.now hw4 ?_ ?_ ?_ _)) ?_; (focus (omega)); (focus (omega)); (focus (omega)))) | (refine kCallN 43 ?_; first | (refine LOps.ans (AnsL.callP rfl rfl rfl (ok43) (h0.okw hw0 ?_ ?_ _)) ?_; (focus (omega)); (focus (omega))) | (refine LOps.ans (AnsL.callP rfl rfl rfl (ok43) (h0.now hw0 ?_ ?_ ?_ _)) ?_; (focus (omega)); (focus (omega)); (focus (omega)))))
      | (refine kWL ?_; first | (refine WL.seq ?_) | (refine WL.region (by kernel_rfl) ?_) | (refine WL.skip ?_) | (refine WL.ret ?_) | (refine kCond ?_; first | (refine WL.condT rfl ?_) | (refine WL.condF rfl ?_) | (refine WL.condT' rfl ?_ ?_; (focus (first | (assumption) | (exact decide_eq_true (by assumption)) | (exact decide_eq_false (by assumption)) | (simp only [decide_eq_true_eq, decide_eq_false_iff_not, Bool.not_eq_true', Bool.not_eq_false', Int.ofNat_lt, Int.ofNat_le, Int.ofNat_inj, not_true_eq_false, not_false_eq_true]; omega) | (simp <;> fail)))) | (refine WL.condF' rfl ?_ ?_; (focus (first | (assumption) | (exact decide_eq_true (by assumption)) | (exact decide_eq_false (by assumption)) | (simp only [decide_eq_true_eq, decide_eq_false_iff_not, Bool.not_eq_true', Bool.not_eq_false', Int.ofNat_lt, Int.ofNat_le, Int.ofNat_inj, not_true_eq_false, not_false_eq_true]; omega) | (simp <;> fail)))) | (refine WL.cond rfl (fun h => ?_) (fun h => ?_))))
      | (refine lthen_n ?_)
      | (refine lthen_r ?_)
      | (refine lback_r ?_)
      | (refine lback_e ?_)
      | (refine lbackD_r ?_)
      | (refine lbackD_e ?_)
      | (refine lbackH_r ?_)
      | (refine lbackH_e ?_)
      | (refine LPost.r1 (r := .tmp 4) (.inl rfl) (Res1.tmp rfl) ?_)
      | (refine PureR.mk ?_)
    show V.int .i64 (-1) = _; rw [szI_neg (by omega)]
  by_cases c3 : left - (w0 : Nat) - (w1 : Nat) - (w2 : Nat) - (w3 : Nat) < 0
  · skip
    repeat' first
      | (refine kOps ?_; first | (refine LOps.nil ?_) | (refine LOps.ev tT_ok rfl ?_) | (refine kBox ?_; refine LOps.box rfl rfl rfl rfl ?_) | (refine kLoad ?_; first | (refine LOps.ans (AnsL.loadP tT_ok rfl rfl rfl rfl) ?_)) | (refine kCallN 112 ?_; first | (refine LOps.ans (AnsL.callP rfl rfl rfl (ok112) (h2.okw hw2 ?_ ?_ _)) ?_; (focus (omega)); (focus (omega))) | (refine LOps.ans (AnsL.callP rfl rfl rfl (ok112) (h2.now hw2 ?_ ?_ ?_ _)) ?_; (focus (omega)); (focus (omega)); (focus (omega)))) | (refine kCallN 113 ?_; first | (refine LOps.ans (AnsL.callP rfl rfl rfl (ok113) (h1.okw hw1 ?_ ?_ _)) ?_; (focus (omega)); (focus (omega))) | (refine LOps.ans (AnsL.callP rfl rfl rfl (ok113) (h1.now hw1 ?_ ?_ ?_ _)) ?_; (focus (omega)); (focus (omega)); (focus (omega)))) | (refine kCallN 114 ?_; first | (refine LOps.ans (AnsL.callP rfl rfl rfl (ok114) (h3.okw hw3 ?_ ?_ _)) ?_; (focus (omega)); (focus (omega))) | (refine LOps.ans (AnsL.callP rfl rfl rfl (ok114) (h3.now hw3 ?_ ?_ ?_ _)) ?_; (focus (omega)); (focus (omega)); (focus (omega))) | (refine LOps.ans (AnsL.callP rfl rfl rfl (ok114) (h4.okw hw4 ?_ ?_ _)) ?_; (focus (omega)); (focus (omega))) | (refine LOps.ans (AnsL.callP rfl rfl rfl (ok114) (h4.now hw4 ?_ ?_ ?_ _)) ?_; (focus (omega)); (focus (omega)); (focus (omega)))) | (refine kCallN 43 ?_; first | (refine LOps.ans (AnsL.callP rfl rfl rfl (ok43) (h0.okw hw0 ?_ ?_ _)) ?_; (focus (omega)); (focus (omega))) | (refine LOps.ans (AnsL.callP rfl rfl rfl (ok43) (h0.now hw0 ?_ ?_ ?_ _)) ?_; (focus (omega)); (focus (omega)); (focus (omega)))))
      | (refine kWL ?_; first | (refine WL.seq ?_) | (refine WL.region (by kernel_rfl) ?_) | (refine WL.skip ?_) | (refine WL.ret ?_) | (refine kCond ?_; first | (refine WL.condT rfl ?_) | (refine WL.condF rfl ?_) | (refine WL.condT' rfl ?_ ?_; (focus (first | (assumption) | (exact decide_eq_true (by assumption)) | (exact decide_eq_false (by assumption)) | (simp only [decide_eq_true_eq, decide_eq_false_iff_not, Bool.not_eq_true', Bool.not_eq_false', Int.ofNat_lt, Int.ofNat_le, Int.ofNat_inj, not_true_eq_false, not_false_eq_true]; omega) | (simp <;> fail)))) | (refine WL.condF' rfl ?_ ?_; (focus (first | (assumption) | (exact decide_eq_true (by assumption)) | (exact decide_eq_false (by assumption)) | (simp only [decide_eq_true_eq, decide_eq_false_iff_not, Bool.not_eq_true', Bool.not_eq_false', Int.ofNat_lt, Int.ofNat_le, Int.ofNat_inj, not_true_eq_false, not_false_eq_true]; omega) | (simp <;> fail)))) | (refine WL.cond rfl (fun h => ?_) (fun h => ?_))))
      | (refine lthen_n ?_)
      | (refine lthen_r ?_)
      | (refine lback_r ?_)
      | (refine lback_e ?_)
      | (refine lbackD_r ?_)
      | (refine lbackD_e ?_)
      | (refine lbackH_r ?_)
      | (refine lbackH_e ?_)
      | (refine LPost.r1 (r := .tmp 4) (.inl rfl) (Res1.tmp rfl) ?_)
      | (refine PureR.mk ?_)
    show V.int .i64 (-1) = _; rw [szI_neg (by omega)]
  by_cases c4 : left - (w0 : Nat) - (w1 : Nat) - (w2 : Nat) - (w3 : Nat) - (w4 : Nat) < 0
  · skip
    repeat' first
      | (refine kOps ?_; first | (refine LOps.nil ?_) | (refine LOps.ev tT_ok rfl ?_) | (refine kBox ?_; refine LOps.box rfl rfl rfl rfl ?_) | (refine kLoad ?_; first | (refine LOps.ans (AnsL.loadP tT_ok rfl rfl rfl rfl) ?_)) | (refine kCallN 112 ?_; first | (refine LOps.ans (AnsL.callP rfl rfl rfl (ok112) (h2.okw hw2 ?_ ?_ _)) ?_; (focus (omega)); (focus (omega))) | (refine LOps.ans (AnsL.callP rfl rfl rfl (ok112) (h2.now hw2 ?_ ?_ ?_ _)) ?_; (focus (omega)); (focus (omega)); (focus (omega)))) | (refine kCallN 113 ?_; first | (refine LOps.ans (AnsL.callP rfl rfl rfl (ok113) (h1.okw hw1 ?_ ?_ _)) ?_; (focus (omega)); (focus (omega))) | (refine LOps.ans (AnsL.callP rfl rfl rfl (ok113) (h1.now hw1 ?_ ?_ ?_ _)) ?_; (focus (omega)); (focus (omega)); (focus (omega)))) | (refine kCallN 114 ?_; first | (refine LOps.ans (AnsL.callP rfl rfl rfl (ok114) (h3.okw hw3 ?_ ?_ _)) ?_; (focus (omega)); (focus (omega))) | (refine LOps.ans (AnsL.callP rfl rfl rfl (ok114) (h3.now hw3 ?_ ?_ ?_ _)) ?_; (focus (omega)); (focus (omega)); (focus (omega))) | (refine LOps.ans (AnsL.callP rfl rfl rfl (ok114) (h4.okw hw4 ?_ ?_ _)) ?_; (focus (omega)); (focus (omega))) | (refine LOps.ans (AnsL.callP rfl rfl rfl (ok114) (h4.now hw4 ?_ ?_ ?_ _)) ?_; (focus (omega)); (focus (omega)); (focus (omega)))) | (refine kCallN 43 ?_; first | (refine LOps.ans (AnsL.callP rfl rfl rfl (ok43) (h0.okw hw0 ?_ ?_ _)) ?_; (focus (omega)); (focus (omega))) | (refine LOps.ans (AnsL.callP rfl rfl rfl (ok43) (h0.now hw0 ?_ ?_ ?_ _)) ?_; (focus (omega)); (focus (omega)); (focus (omega)))))
      | (refine kWL ?_; first | (refine WL.seq ?_) | (refine WL.region (by kernel_rfl) ?_) | (refine WL.skip ?_) | (refine WL.ret ?_) | (refine kCond ?_; first | (refine WL.condT rfl ?_) | (refine WL.condF rfl ?_) | (refine WL.condT' rfl ?_ ?_; (focus (first | (assumption) | (exact decide_eq_true (by assumption)) | (exact decide_eq_false (by assumption)) | (simp only [decide_eq_true_eq, decide_eq_false_iff_not, Bool.not_eq_true', Bool.not_eq_false', Int.ofNat_lt, Int.ofNat_le, Int.ofNat_inj, not_true_eq_false, not_false_eq_true]; omega) | (simp <;> fail)))) | (refine WL.condF' rfl ?_ ?_; (focus (first | (assumption) | (exact decide_eq_true (by assumption)) | (exact decide_eq_false (by assumption)) | (simp only [decide_eq_true_eq, decide_eq_false_iff_not, Bool.not_eq_true', Bool.not_eq_false', Int.ofNat_lt, Int.ofNat_le, Int.ofNat_inj, not_true_eq_false, not_false_eq_true]; omega) | (simp <;> fail)))) | (refine WL.cond rfl (fun h => ?_) (fun h => ?_))))
      | (refine lthen_n ?_)
      | (refine lthen_r ?_)
      | (refine lback_r ?_)
      | (refine lback_e ?_)
      | (refine lbackD_r ?_)
      | (refine lbackD_e ?_)
      | (refine lbackH_r ?_)
      | (refine lbackH_e ?_)
      | (refine LPost.r1 (r := .tmp 4) (.inl rfl) (Res1.tmp rfl) ?_)
      | (refine PureR.mk ?_)
    show V.int .i64 (-1) = _; rw [szI_neg (by omega)]
  repeat' first
    | (refine kOps ?_; first | (refine LOps.nil ?_) | (refine LOps.ev tT_ok rfl ?_) | (refine kBox ?_; refine LOps.box rfl rfl rfl rfl ?_) | (refine kLoad ?_; first | (refine LOps.ans (AnsL.loadP tT_ok rfl rfl rfl rfl) ?_)) | (refine kCallN 112 ?_; first | (refine LOps.ans (AnsL.callP rfl rfl rfl (ok112) (h2.okw hw2 ?_ ?_ _)) ?_; (focus (omega)); (focus (omega))) | (refine LOps.ans (AnsL.callP rfl rfl rfl (ok112) (h2.now hw2 ?_ ?_ ?_ _)) ?_; (focus (omega)); (focus (omega)); (focus (omega)))) | (refine kCallN 113 ?_; first | (refine LOps.ans (AnsL.callP rfl rfl rfl (ok113) (h1.okw hw1 ?_ ?_ _)) ?_; (focus (omega)); (focus (omega))) | (refine LOps.ans (AnsL.callP rfl rfl rfl (ok113) (h1.now hw1 ?_ ?_ ?_ _)) ?_; (focus (omega)); (focus (omega)); (focus (omega)))) | (refine kCallN 114 ?_; first | (refine LOps.ans (AnsL.callP rfl rfl rfl (ok114) (h3.okw hw3 ?_ ?_ _)) ?_; (focus (omega)); (focus (omega))) | (refine LOps.ans (AnsL.callP rfl rfl rfl (ok114) (h3.now hw3 ?_ ?_ ?_ _)) ?_; (focus (omega)); (focus (omega)); (focus (omega))) | (refine LOps.ans (AnsL.callP rfl rfl rfl (ok114) (h4.okw hw4 ?_ ?_ _)) ?_; (focus (omega)); (focus (omega))) | (refine LOps.ans (AnsL.callP rfl rfl rfl (ok114) (h4.now hw4 ?_ ?_ ?_ _)) ?_; (focus (omega)); (focus (omega)); (focus (omega)))) | (refine kCallN 43 ?_; first | (refine LOps.ans (AnsL.callP rfl rfl rfl (ok43) (h0.okw hw0 ?_ ?_ _)) ?_; (focus (omega)); (focus (omega))) | (refine LOps.ans (AnsL.callP rfl rfl rfl (ok43) (h0.now hw0 ?_ ?_ ?_ _)) ?_; (focus (omega)); (focus (omega)); (focus (omega)))))
    | (refine kWL ?_; first | (refine WL.seq ?_) | (refine WL.region (by kernel_rfl) ?_) | (refine WL.skip ?_) | (refine WL.ret ?_) | (refine kCond ?_; first | (refine WL.condT rfl ?_) | (refine WL.condF rfl ?_) | (refine WL.condT' rfl ?_ ?_; (focus (first | (assumption) | (exact decide_eq_true (by assumption)) | (exact decide_eq_false (by assumption)) | (simp only [decide_eq_true_eq, decide_eq_false_iff_not, Bool.not_eq_true', Bool.not_eq_false', Int.ofNat_lt, Int.ofNat_le, Int.ofNat_inj, not_true_eq_false, not_false_eq_true]; omega) | (simp <;> fail)))) | (refine WL.condF' rfl ?_ ?_; (focus (first | (assumption) | (exact decide_eq_true (by assumption)) | (exact decide_eq_false (by assumption)) | (simp only [decide_eq_true_eq, decide_eq_false_iff_not, Bool.not_eq_true', Bool.not_eq_false', Int.ofNat_lt, Int.ofNat_le, Int.ofNat_inj, not_true_eq_false, not_false_eq_true]; omega) | (simp <;> fail)))) | (refine WL.cond rfl (fun h => ?_) (fun h => ?_))))
    | (refine lthen_n ?_)
    | (refine lthen_r ?_)
    | (refine lback_r ?_)
    | (refine lback_e ?_)
    | (refine lbackD_r ?_)
    | (refine lbackD_e ?_)
    | (refine lbackH_r ?_)
    | (refine lbackH_e ?_)
    | (refine LPost.r1 (r := .tmp 4) (.inl rfl) (Res1.tmp rfl) ?_)
    | (refine PureR.mk ?_)
  rw [szI_pos (by omega)]; show V.int .i64 _ = _; first | rfl | (congr 1; omega)
theorem eqSPlan_r (x : SPl) (h0 : EqC Try.prog 46 (PL.v x.plan)) (h1 : EqC Try.prog 124 (.sl 0 (x.rows.map PE.vS))) (h2 : EqC Try.prog 123 (.sl 0 (x.cols.map iV))) (h3 : EqC Try.prog 125 (.sl 0 (x.sets.map PE.toV))) (h4 : EqC Try.prog 125 (.sl 0 (x.wher.map PE.toV))) : EqC Try.prog 57 (SP.v x) := by
  intro s
  refine LCalls.pure Try.func57 rfl (by kernel_rfl) (by simp) ?_
  repeat' first
    | (refine kOps ?_; first | (refine LOps.nil ?_) | (refine LOps.ev tT_ok rfl ?_) | (refine kBox ?_; refine LOps.box rfl rfl rfl rfl ?_) | (refine kLoad ?_; first | (refine LOps.ans (AnsL.loadP tT_ok rfl rfl rfl rfl) ?_)) | (refine kCallN 123 ?_; first | (refine LOps.ans (AnsL.callP rfl rfl rfl (ok123) (h2 _)) ?_)) | (refine kCallN 124 ?_; first | (refine LOps.ans (AnsL.callP rfl rfl rfl (ok124) (h1 _)) ?_)) | (refine kCallN 125 ?_; first | (refine LOps.ans (AnsL.callP rfl rfl rfl (ok125) (h3 _)) ?_) | (refine LOps.ans (AnsL.callP rfl rfl rfl (ok125) (h4 _)) ?_)) | (refine kCallN 46 ?_; first | (refine LOps.ans (AnsL.callP rfl rfl rfl (ok46) (h0 _)) ?_)))
    | (refine kWL ?_; first | (refine WL.seq ?_) | (refine WL.region (by kernel_rfl) ?_) | (refine WL.skip ?_) | (refine WL.ret ?_) | (refine kCond ?_; first | (refine WL.condT rfl ?_) | (refine WL.condF rfl ?_) | (refine WL.condT' rfl ?_ ?_; (focus (first | (assumption) | (exact decide_eq_true (by assumption)) | (exact decide_eq_false (by assumption)) | (simp only [decide_eq_true_eq, decide_eq_false_iff_not, Bool.not_eq_true', Bool.not_eq_false', Int.ofNat_lt, Int.ofNat_le, Int.ofNat_inj, not_true_eq_false, not_false_eq_true]; omega) | (simp <;> fail)))) | (refine WL.condF' rfl ?_ ?_; (focus (first | (assumption) | (exact decide_eq_true (by assumption)) | (exact decide_eq_false (by assumption)) | (simp only [decide_eq_true_eq, decide_eq_false_iff_not, Bool.not_eq_true', Bool.not_eq_false', Int.ofNat_lt, Int.ofNat_le, Int.ofNat_inj, not_true_eq_false, not_false_eq_true]; omega) | (simp <;> fail)))) | (refine WL.cond rfl (fun h => ?_) (fun h => ?_))))
    | (refine lthen_n ?_)
    | (refine lthen_r ?_)
    | (refine lback_r ?_)
    | (refine lback_e ?_)
    | (refine lbackD_r ?_)
    | (refine lbackD_e ?_)
    | (refine lbackH_r ?_)
    | (refine lbackH_e ?_)
    | (refine LPost.r1 (r := .tmp 4) (.inl rfl) (Res1.tmp rfl) ?_)
    | (refine PureR.mk ?_)
  rfl
theorem SP.wgt_row {x : SPl} {l : List PE} (h : l ∈ x.rows) : wgt (.sl 0 (l.map PE.toV)) ≤ wgt (SP.v x) := by
  have h1 := wgt_mem (f := PE.vS) h
  have h2 := SP.wgt_eq x
  have h3 : wgt (PE.vS l) = wgt (.sl 0 (l.map PE.toV)) := rfl
  omega
theorem toSPlan_c (x : SPl) (hw : wgt (SP.v x) ≤ 1048576) : ToC Try.prog 55 (SP.v x) :=
  toSPlan_r x (toPlan_c x.plan (by have h2 := SP.wgt_eq x; omega)) (toPExprSS_r x.rows (by have h1 := wgt_len PE.vS x.rows; have h2 := SP.wgt_eq x; omega) fun l hl => toPExprS_c l (Nat.le_trans (SP.wgt_row hl) hw)) (toIntS_r x.cols (by have h1 := wgt_len iV x.cols; have h2 := SP.wgt_eq x; omega)) (toPExprS_c x.sets (by have h2 := SP.wgt_eq x; omega)) (toPExprS_c x.wher (by have h2 := SP.wgt_eq x; omega))
theorem szSPlan_c (x : SPl) : SzC Try.prog 53 (SP.v x) := szSPlan_r x (szPlan_c x.plan) (szPExprSS_r x.rows fun l _ => szPExprS_c l) (szIntS_r x.cols) (szPExprS_c x.sets) (szPExprS_c x.wher)
theorem eqSPlan_c (x : SPl) (hw : wgt (SP.v x) ≤ 1048576) : EqC Try.prog 57 (SP.v x) :=
  eqSPlan_r x (eqPlan_c x.plan (by have h2 := SP.wgt_eq x; omega)) (eqPExprSS_r x.rows (by have h1 := wgt_len PE.vS x.rows; have h2 := SP.wgt_eq x; omega) fun l hl => eqPExprS_c l (Nat.le_trans (SP.wgt_row hl) hw)) (eqIntS_r x.cols (by have h1 := wgt_len iV x.cols; have h2 := SP.wgt_eq x; omega)) (eqPExprS_c x.sets (by have h2 := SP.wgt_eq x; omega)) (eqPExprS_c x.wher (by have h2 := SP.wgt_eq x; omega))
theorem SPlan_has {n : Nat} {v : V} (h : Has Try.prog n 91 v) : ∃ x : SPl, v.forget = SP.v x := by
  obtain ⟨n1, us, hn, hv, h1⟩ := Has.stLt Try.underlying91 h
  subst hv
  obtain ⟨u0, _, rfl, e0, u1, _, rfl, e1, u2, _, rfl, e2, u3, _, rfl, e3, u4, _, rfl, e4, u5, _, rfl, e5, u6, _, rfl, e6, rfl⟩ := h1
  obtain ⟨a0, rfl⟩ := Has.int Try.underlying3 e0
  obtain ⟨a1, ha1⟩ := Plan_has e1
  obtain ⟨a2, rfl⟩ := Has.int Try.underlying3 e2
  obtain ⟨a3, ha3⟩ := slice_hasLt (f := PE.vS) Try.underlying74 (fun k hk u hu => slice_hasLt (f := PE.toV) Try.underlying75 (fun k2 hk2 w hw => PE_hasN k2 w hw) hu) e3
  obtain ⟨a4, ha4⟩ := intS_hasLt e4
  obtain ⟨a5, ha5⟩ := slice_hasLt (f := PE.toV) Try.underlying75 (fun k2 hk2 w hw => PE_hasN k2 w hw) e5
  obtain ⟨a6, ha6⟩ := slice_hasLt (f := PE.toV) Try.underlying75 (fun k2 hk2 w hw => PE_hasN k2 w hw) e6
  refine ⟨⟨a0, a1, a2, a3, a4, a5, a6⟩, ?_⟩
  rw [flat_forget5]
  simp only [List.flatMap_cons, List.flatMap_nil, ha1, ha3, ha4, ha5, ha6, V.forget, V.cells, List.append_nil, List.cons_append, List.nil_append, SP.v, PL.v, ints]
def SP.eqB (x y : SPl) : Bool := decide (x.kind = y.kind) && (PE.eqP x.plan y.plan && (decide (x.table = y.table) && (same (same PE.eqB) x.rows y.rows && (same intEq x.cols y.cols && (same PE.eqB x.sets y.sets && same PE.eqB x.wher y.wher)))))
theorem implSameSPlan_v (x y : SPl) (s : S) : VCalls Try.prog 56 [SP.v x, SP.v y] s (fun v s' => v = .bool (SP.eqB x y) ∧ s' = s) := by
  unfold SP.eqB
  refine VCalls.wf fun hwf => ?_
  simp only [SP.v, List.all_cons, List.all_nil, V.wf, V.wfL, Bool.and_true, Bool.and_eq_true, decide_eq_true_eq, List.length_map, maxLen] at hwf
  refine LCalls.pure Try.func56 rfl (by kernel_rfl) (by simp) ?_
  repeat' first
    | (refine kOps ?_; first | (refine LOps.nil ?_) | (refine kG ?_; first | (refine LOps.gT rfl rfl rfl ?_) | (refine LOps.gF rfl rfl rfl ?_) | (refine LOps.gU rfl rfl ?_) | (refine LOps.gFN rfl rfl rfl ?_) | (refine LOps.gD true rfl rfl rfl ?_ ?_; (focus (first | (assumption) | (exact decide_eq_true (by assumption)) | (exact decide_eq_false (by assumption)) | (simp only [decide_eq_true_eq, decide_eq_false_iff_not, Bool.not_eq_true', Bool.not_eq_false', Int.ofNat_lt, Int.ofNat_le, Int.ofNat_inj, not_true_eq_false, not_false_eq_true]; omega) | (simp <;> fail)))) | (refine LOps.gD false rfl rfl rfl ?_ ?_; (focus (first | (assumption) | (exact decide_eq_true (by assumption)) | (exact decide_eq_false (by assumption)) | (simp only [decide_eq_true_eq, decide_eq_false_iff_not, Bool.not_eq_true', Bool.not_eq_false', Int.ofNat_lt, Int.ofNat_le, Int.ofNat_inj, not_true_eq_false, not_false_eq_true]; omega) | (simp <;> fail)))) | (refine LOps.gC rfl rfl rfl (fun h => ?_) (fun h => ?_))) | (refine LOps.ev tT_ok rfl ?_) | (refine kBox ?_; refine LOps.box rfl rfl rfl rfl ?_) | (refine kLoad ?_; first | (refine LOps.ans (AnsL.loadP tT_ok rfl rfl rfl rfl) ?_)) | (refine kCallN 29 ?_; first | (refine LOps.ans (AnsL.callP rfl rfl rfl (ok29) (implSamePlan_v x.plan y.plan _)) ?_)) | (refine kCallN 63 ?_; first | (refine LOps.ans (AnsL.callP rfl rfl rfl (ok63) (samePExprs_v x.sets y.sets ?_ _)) ?_; (focus (exact fun k hk => implSamePExpr_c k))) | (refine LOps.ans (AnsL.callP rfl rfl rfl (ok63) (samePExprs_v x.wher y.wher ?_ _)) ?_; (focus (exact fun k hk => implSamePExpr_c k)))) | (refine kCallN 96 ?_; first | (refine LOps.ans (AnsL.callP rfl rfl rfl (ok96) (slicesEqualInt_v _ _ ?_ ?_ _)) ?_; (focus (omega)); (focus (omega)))) | (refine kCallN 97 ?_; first | (refine LOps.ans (AnsL.callP rfl rfl rfl (ok97) (equalFuncPEL_v _ _ _ (same PE.eqB) _ [] ok63 rfl ?_)) ?_; (focus (exact fun l hl m _ ys => samePExprs_v l m (fun k hk => implSamePExpr_c k) _)))))
    | (refine kWL ?_; first | (refine WL.seq ?_) | (refine WL.region (by kernel_rfl) ?_) | (refine WL.skip ?_) | (refine WL.ret ?_) | (refine kCond ?_; first | (refine WL.condT rfl ?_) | (refine WL.condF rfl ?_) | (refine WL.condT' rfl ?_ ?_; (focus (first | (assumption) | (exact decide_eq_true (by assumption)) | (exact decide_eq_false (by assumption)) | (simp only [decide_eq_true_eq, decide_eq_false_iff_not, Bool.not_eq_true', Bool.not_eq_false', Int.ofNat_lt, Int.ofNat_le, Int.ofNat_inj, not_true_eq_false, not_false_eq_true]; omega) | (simp <;> fail)))) | (refine WL.condF' rfl ?_ ?_; (focus (first | (assumption) | (exact decide_eq_true (by assumption)) | (exact decide_eq_false (by assumption)) | (simp only [decide_eq_true_eq, decide_eq_false_iff_not, Bool.not_eq_true', Bool.not_eq_false', Int.ofNat_lt, Int.ofNat_le, Int.ofNat_inj, not_true_eq_false, not_false_eq_true]; omega) | (simp <;> fail)))) | (refine WL.cond rfl (fun h => ?_) (fun h => ?_))))
    | (refine lthen_n ?_)
    | (refine lthen_r ?_)
    | (refine lback_r ?_)
    | (refine lback_e ?_)
    | (refine lbackD_r ?_)
    | (refine lbackD_e ?_)
    | (refine lbackH_r ?_)
    | (refine lbackH_e ?_)
    | (refine LPost.r1 (r := .tmp 4) (.inl rfl) (Res1.tmp rfl) ?_)
    | (refine PureR.mk ?_)
  all_goals simp_all
theorem specSameSPlan_v (p q : SPl) (s : S) : VCalls Try.prog 54 [SP.v p, SP.v q] s (fun v s' => v = .bool (SP.eqB p q) ∧ s' = s) := by
  unfold SP.eqB
  refine VCalls.wf fun hwf => ?_
  simp only [SP.v, List.all_cons, List.all_nil, V.wf, V.wfL, Bool.and_true, Bool.and_eq_true, decide_eq_true_eq, List.length_map, maxLen] at hwf
  refine LCalls.pure Try.func54 rfl (by kernel_rfl) (by simp) ?_
  repeat' first
    | (refine kOps ?_; first | (refine LOps.nil ?_) | (refine kG ?_; first | (refine LOps.gT rfl rfl rfl ?_) | (refine LOps.gF rfl rfl rfl ?_) | (refine LOps.gU rfl rfl ?_) | (refine LOps.gFN rfl rfl rfl ?_) | (refine LOps.gD true rfl rfl rfl ?_ ?_; (focus (first | (assumption) | (exact decide_eq_true (by assumption)) | (exact decide_eq_false (by assumption)) | (simp only [decide_eq_true_eq, decide_eq_false_iff_not, Bool.not_eq_true', Bool.not_eq_false', Int.ofNat_lt, Int.ofNat_le, Int.ofNat_inj, not_true_eq_false, not_false_eq_true]; omega) | (simp <;> fail)))) | (refine LOps.gD false rfl rfl rfl ?_ ?_; (focus (first | (assumption) | (exact decide_eq_true (by assumption)) | (exact decide_eq_false (by assumption)) | (simp only [decide_eq_true_eq, decide_eq_false_iff_not, Bool.not_eq_true', Bool.not_eq_false', Int.ofNat_lt, Int.ofNat_le, Int.ofNat_inj, not_true_eq_false, not_false_eq_true]; omega) | (simp <;> fail)))) | (refine LOps.gC rfl rfl rfl (fun h => ?_) (fun h => ?_))) | (refine LOps.ev tT_ok rfl ?_) | (refine kBox ?_; refine LOps.box rfl rfl rfl rfl ?_) | (refine kLoad ?_; first | (refine LOps.ans (AnsL.loadP tT_ok rfl rfl rfl rfl) ?_)) | (refine kLen ?_; first | (refine LOps.ans (AnsL.lenM tT_ok rfl rfl rfl) ?_) | (refine LOps.ans (AnsL.lenS tT_ok rfl rfl rfl rfl) ?_) | (refine LOps.ans (AnsL.lenG tT_ok rfl rfl rfl) ?_)) | (refine kBin ?_; first | (refine LOps.ans (AnsL.add rfl rfl ?_) ?_; (focus (constructor <;> omega))) | (refine LOps.ans (AnsL.arith rfl rfl rfl) ?_)) | (refine kIdx ?_; first | (refine LOps.ans (AnsL.idxA tT_ok rfl rfl rfl rfl rfl (by omega) rfl rfl) ?_) | (refine LOps.ans (AnsL.idxZ tT_ok rfl rfl rfl rfl rfl ?_ rfl rfl rfl) ?_; (focus (decide)))) | (refine kCallN 132 ?_; first | (refine LOps.ans (AnsL.callP rfl rfl rfl (ok132) (specl19Same_v p.sets q.sets _ ?_)) ?_; (focus (exact fun k hk => specSamePExpr_c k))) | (refine LOps.ans (AnsL.callP rfl rfl rfl (ok132) (specl19Same_v p.wher q.wher _ ?_)) ?_; (focus (exact fun k hk => specSamePExpr_c k)))) | (refine kCallN 137 ?_; first | (refine LOps.ans (AnsL.callP rfl rfl rfl (ok137) (specl19Ints_v _ _ ?_ ?_ _)) ?_; (focus (omega)); (focus (omega)))) | (refine kCallN 52 ?_; first | (refine LOps.ans (AnsL.callP rfl rfl rfl (ok52) (specSamePlan_v p.plan q.plan _)) ?_)))
    | (refine kWL ?_; first | (refine WL.seq ?_) | (refine WL.region (by kernel_rfl) ?_) | (refine WL.drawn (id := 6) [0, 1, 2, 3, 4, 5, 6, 7, 8, 9, 10, 11] [] [[], [0], [], [0, 1, 2], [0, 1, 2, 3], [], [5], [], [5, 6, 7], [5, 6, 7, 8], [0, 1, 2, 3, 4, 5, 6, 7, 8, 9], [0, 1, 2, 3, 4, 5, 6, 7, 8, 9, 10]] (by kernel_rfl) (by kernel_rfl) ?_) | (refine WL.block ?_) | (refine WL.exit ?_) | (refine WL.skip ?_) | (refine WL.ret ?_) | (refine kCond ?_; first | (refine WL.condT rfl ?_) | (refine WL.condF rfl ?_) | (refine WL.condT' rfl ?_ ?_; (focus (first | (assumption) | (exact decide_eq_true (by assumption)) | (exact decide_eq_false (by assumption)) | (simp only [decide_eq_true_eq, decide_eq_false_iff_not, Bool.not_eq_true', Bool.not_eq_false', Int.ofNat_lt, Int.ofNat_le, Int.ofNat_inj, not_true_eq_false, not_false_eq_true]; omega) | (simp <;> fail)))) | (refine WL.condF' rfl ?_ ?_; (focus (first | (assumption) | (exact decide_eq_true (by assumption)) | (exact decide_eq_false (by assumption)) | (simp only [decide_eq_true_eq, decide_eq_false_iff_not, Bool.not_eq_true', Bool.not_eq_false', Int.ofNat_lt, Int.ofNat_le, Int.ofNat_inj, not_true_eq_false, not_false_eq_true]; omega) | (simp <;> fail)))) | (refine WL.cond rfl (fun h => ?_) (fun h => ?_))))
    | (refine kDr ?_; first | (refine LDr.nil ?_) | (refine LDr.fl rfl rfl (.ev tT_ok rfl) ?_) | (refine LDr.gF rfl rfl rfl rfl rfl ?_) | (refine LDr.gU rfl rfl rfl rfl ?_) | (refine LDr.gT rfl rfl rfl rfl rfl (.ev tT_ok rfl) ?_) | (refine kDLoad rfl ?_; first | (refine LDr.fl rfl rfl (AnsL.loadP tT_ok rfl rfl rfl rfl) ?_) | (refine LDr.gT rfl rfl rfl rfl rfl (AnsL.loadP tT_ok rfl rfl rfl rfl) ?_)) | (refine kDLen rfl ?_; first | (refine LDr.fl rfl rfl (AnsL.lenM tT_ok rfl rfl rfl) ?_) | (refine LDr.gT rfl rfl rfl rfl rfl (AnsL.lenM tT_ok rfl rfl rfl) ?_) | (refine LDr.fl rfl rfl (AnsL.lenS tT_ok rfl rfl rfl rfl) ?_) | (refine LDr.gT rfl rfl rfl rfl rfl (AnsL.lenS tT_ok rfl rfl rfl rfl) ?_) | (refine LDr.fl rfl rfl (AnsL.lenG tT_ok rfl rfl rfl) ?_) | (refine LDr.gT rfl rfl rfl rfl rfl (AnsL.lenG tT_ok rfl rfl rfl) ?_)) | (refine kDBin rfl ?_; first | (refine LDr.fl rfl rfl (AnsL.add rfl rfl ?_) ?_; (focus (constructor <;> omega))) | (refine LDr.gT rfl rfl rfl rfl rfl (AnsL.add rfl rfl ?_) ?_; (focus (constructor <;> omega))) | (refine LDr.fl rfl rfl (AnsL.arith rfl rfl rfl) ?_) | (refine LDr.gT rfl rfl rfl rfl rfl (AnsL.arith rfl rfl rfl) ?_)) | (refine kDIdx rfl ?_; first | (refine LDr.fl rfl rfl (AnsL.idxA tT_ok rfl rfl rfl rfl rfl (by omega) rfl rfl) ?_) | (refine LDr.gT rfl rfl rfl rfl rfl (AnsL.idxA tT_ok rfl rfl rfl rfl rfl (by omega) rfl rfl) ?_) | (refine LDr.fl rfl rfl (AnsL.idxZ tT_ok rfl rfl rfl rfl rfl ?_ rfl rfl rfl) ?_; (focus (decide))) | (refine LDr.gT rfl rfl rfl rfl rfl (AnsL.idxZ tT_ok rfl rfl rfl rfl rfl ?_ rfl rfl rfl) ?_; (focus (decide)))) | (refine kDCallN 132 rfl ?_; first | (refine LDr.fl rfl rfl (AnsL.callP rfl rfl rfl (ok132) (specl19Same_v p.sets q.sets _ ?_)) ?_; (focus (exact fun k hk => specSamePExpr_c k))) | (refine LDr.gT rfl rfl rfl rfl rfl (AnsL.callP rfl rfl rfl (ok132) (specl19Same_v p.sets q.sets _ ?_)) ?_; (focus (exact fun k hk => specSamePExpr_c k))) | (refine LDr.fl rfl rfl (AnsL.callP rfl rfl rfl (ok132) (specl19Same_v p.wher q.wher _ ?_)) ?_; (focus (exact fun k hk => specSamePExpr_c k))) | (refine LDr.gT rfl rfl rfl rfl rfl (AnsL.callP rfl rfl rfl (ok132) (specl19Same_v p.wher q.wher _ ?_)) ?_; (focus (exact fun k hk => specSamePExpr_c k)))) | (refine kDCallN 137 rfl ?_; first | (refine LDr.fl rfl rfl (AnsL.callP rfl rfl rfl (ok137) (specl19Ints_v _ _ ?_ ?_ _)) ?_; (focus (omega)); (focus (omega))) | (refine LDr.gT rfl rfl rfl rfl rfl (AnsL.callP rfl rfl rfl (ok137) (specl19Ints_v _ _ ?_ ?_ _)) ?_; (focus (omega)); (focus (omega)))) | (refine kDCallN 52 rfl ?_; first | (refine LDr.fl rfl rfl (AnsL.callP rfl rfl rfl (ok52) (specSamePlan_v p.plan q.plan _)) ?_) | (refine LDr.gT rfl rfl rfl rfl rfl (AnsL.callP rfl rfl rfl (ok52) (specSamePlan_v p.plan q.plan _)) ?_)) | (refine LDr.gD true rfl rfl rfl rfl ?_ ?_; (focus (first | (assumption) | (exact decide_eq_true (by assumption)) | (exact decide_eq_false (by assumption)) | (simp only [decide_eq_true_eq, decide_eq_false_iff_not, Bool.not_eq_true', Bool.not_eq_false', Int.ofNat_lt, Int.ofNat_le, Int.ofNat_inj, not_true_eq_false, not_false_eq_true]; omega) | (simp <;> fail)))) | (refine LDr.gD false rfl rfl rfl rfl ?_ ?_; (focus (first | (assumption) | (exact decide_eq_true (by assumption)) | (exact decide_eq_false (by assumption)) | (simp only [decide_eq_true_eq, decide_eq_false_iff_not, Bool.not_eq_true', Bool.not_eq_false', Int.ofNat_lt, Int.ofNat_le, Int.ofNat_inj, not_true_eq_false, not_false_eq_true]; omega) | (simp <;> fail)))) | (refine LDr.gC rfl rfl rfl rfl (fun h => ?_) (fun h => ?_)))
    | (refine lthen_n ?_)
    | (refine lthen_r ?_)
    | (refine lthen_e ?_)
    | (refine lblock_n ?_)
    | (refine lblock_r ?_)
    | (refine lblock_e ?_)
    | (refine lblock_o rfl ?_)
    | (refine lback_r ?_)
    | (refine lback_e ?_)
    | (refine lbackD_r ?_)
    | (refine lbackD_e ?_)
    | (refine lbackH_r ?_)
    | (refine lbackH_e ?_)
    | (refine LPost.r1 (r := .tmp 4) (.inl rfl) (Res1.tmp rfl) ?_)
    | (refine PureR.mk ?_)
  any_goals (show V.bool _ = _; first | (simp_all; done) | (simp_all [same_ne]; done) | (simp_all [same]; done))
  have hon : (p.rows.length : Int) = q.rows.length := by simp_all
  refine WL.loopD (fun i : Nat => p.rows.length - i) (fun i => [(2, .ptr (s.next + 0) 0), (3, .ptr (s.next + 1) 0), (5, .int .i64 (i : Int))]) (fun i => [.var (SP.v p).cells, .var (SP.v q).cells])
    (fun i => i ≤ p.rows.length ∧ same (same PE.eqB) p.rows q.rows = eqAll (same PE.eqB) (p.rows.drop i) (q.rows.drop i)) 2 0 ⟨by omega, same_eq hon⟩ (fun _ => rfl) ⟨rfl, rfl, rfl, trivial⟩ rfl (fun i hi => ?_) (fun i hi => ?_)
  · simp [UnderK, UnderX, Own.under, V.under, V.underL, SP.v, V.cells]
  obtain ⟨hi, hc⟩ := hi
  rcases Nat.lt_or_ge i p.rows.length with hlt | hge
  · have hlt2 : i < q.rows.length := by omega
    have hga : (p.rows.map PE.vS)[i]? = some (PE.vS p.rows[i]) := by rw [List.getElem?_map, List.getElem?_eq_getElem hlt]; rfl
    have hgb : (q.rows.map PE.vS)[i]? = some (PE.vS q.rows[i]) := by rw [List.getElem?_map, List.getElem?_eq_getElem hlt2]; rfl
    rw [eqAll_drop hlt hlt2] at hc
    have hE := fun t => specl19Same_v p.rows[i] q.rows[i] t fun k hk => specSamePExpr_c k
    generalize p.rows[i] = a at hga hE hc
    generalize q.rows[i] = b at hgb hE hc
    cases hp : same PE.eqB a b
    all_goals rw [hp] at hE hc
    · skip
      repeat' first
        | (refine kOps ?_; first | (refine LOps.nil ?_) | (refine kG ?_; first | (refine LOps.gT rfl rfl rfl ?_) | (refine LOps.gF rfl rfl rfl ?_) | (refine LOps.gU rfl rfl ?_) | (refine LOps.gFN rfl rfl rfl ?_) | (refine LOps.gD true rfl rfl rfl ?_ ?_; (focus (first | (assumption) | (exact decide_eq_true (by assumption)) | (exact decide_eq_false (by assumption)) | (simp only [decide_eq_true_eq, decide_eq_false_iff_not, Bool.not_eq_true', Bool.not_eq_false', Int.ofNat_lt, Int.ofNat_le, Int.ofNat_inj, not_true_eq_false, not_false_eq_true]; omega) | (simp <;> fail)))) | (refine LOps.gD false rfl rfl rfl ?_ ?_; (focus (first | (assumption) | (exact decide_eq_true (by assumption)) | (exact decide_eq_false (by assumption)) | (simp only [decide_eq_true_eq, decide_eq_false_iff_not, Bool.not_eq_true', Bool.not_eq_false', Int.ofNat_lt, Int.ofNat_le, Int.ofNat_inj, not_true_eq_false, not_false_eq_true]; omega) | (simp <;> fail)))) | (refine LOps.gC rfl rfl rfl (fun h => ?_) (fun h => ?_))) | (refine LOps.ev tT_ok rfl ?_) | (refine kBox ?_; refine LOps.box rfl rfl rfl rfl ?_) | (refine kLoad ?_; first | (refine LOps.ans (AnsL.loadP tT_ok rfl rfl rfl rfl) ?_)) | (refine kLen ?_; first | (refine LOps.ans (AnsL.lenM tT_ok rfl rfl rfl) ?_) | (refine LOps.ans (AnsL.lenS tT_ok rfl rfl rfl rfl) ?_) | (refine LOps.ans (AnsL.lenG tT_ok rfl rfl rfl) ?_)) | (refine kBin ?_; first | (refine LOps.ans (AnsL.add rfl rfl ?_) ?_; (focus (constructor <;> omega))) | (refine LOps.ans (AnsL.arith rfl rfl rfl) ?_)) | (refine kIdx ?_; first | (refine LOps.ans (AnsL.idx tT_ok rfl rfl rfl rfl rfl hga rfl rfl) ?_) | (refine LOps.ans (AnsL.idx tT_ok rfl rfl rfl rfl rfl hgb rfl rfl) ?_) | (refine LOps.ans (AnsL.idxA tT_ok rfl rfl rfl rfl rfl (by omega) rfl rfl) ?_) | (refine LOps.ans (AnsL.idxZ tT_ok rfl rfl rfl rfl rfl ?_ rfl rfl rfl) ?_; (focus (decide)))) | (refine kCallN 132 ?_; first | (refine LOps.ans (AnsL.callP rfl rfl rfl (ok132) (hE _)) ?_)))
        | (refine kWL ?_; first | (refine WL.seq ?_) | (refine WL.region (by kernel_rfl) ?_) | (refine WL.drawn (id := 6) [0, 1, 2, 3, 4, 5, 6, 7, 8, 9, 10, 11] [] [[], [0], [], [0, 1, 2], [0, 1, 2, 3], [], [5], [], [5, 6, 7], [5, 6, 7, 8], [0, 1, 2, 3, 4, 5, 6, 7, 8, 9], [0, 1, 2, 3, 4, 5, 6, 7, 8, 9, 10]] (by kernel_rfl) (by kernel_rfl) ?_) | (refine WL.block ?_) | (refine WL.exit ?_) | (refine WL.skip ?_) | (refine WL.ret ?_) | (refine kCond ?_; first | (refine WL.condT rfl ?_) | (refine WL.condF rfl ?_) | (refine WL.condT' rfl ?_ ?_; (focus (first | (assumption) | (exact decide_eq_true (by assumption)) | (exact decide_eq_false (by assumption)) | (simp only [decide_eq_true_eq, decide_eq_false_iff_not, Bool.not_eq_true', Bool.not_eq_false', Int.ofNat_lt, Int.ofNat_le, Int.ofNat_inj, not_true_eq_false, not_false_eq_true]; omega) | (simp <;> fail)))) | (refine WL.condF' rfl ?_ ?_; (focus (first | (assumption) | (exact decide_eq_true (by assumption)) | (exact decide_eq_false (by assumption)) | (simp only [decide_eq_true_eq, decide_eq_false_iff_not, Bool.not_eq_true', Bool.not_eq_false', Int.ofNat_lt, Int.ofNat_le, Int.ofNat_inj, not_true_eq_false, not_false_eq_true]; omega) | (simp <;> fail)))) | (refine WL.cond rfl (fun h => ?_) (fun h => ?_))))
        | (refine kDr ?_; first | (refine LDr.nil ?_) | (refine LDr.fl rfl rfl (.ev tT_ok rfl) ?_) | (refine LDr.gF rfl rfl rfl rfl rfl ?_) | (refine LDr.gU rfl rfl rfl rfl ?_) | (refine LDr.gT rfl rfl rfl rfl rfl (.ev tT_ok rfl) ?_) | (refine kDLoad rfl ?_; first | (refine LDr.fl rfl rfl (AnsL.loadP tT_ok rfl rfl rfl rfl) ?_) | (refine LDr.gT rfl rfl rfl rfl rfl (AnsL.loadP tT_ok rfl rfl rfl rfl) ?_)) | (refine kDLen rfl ?_; first | (refine LDr.fl rfl rfl (AnsL.lenM tT_ok rfl rfl rfl) ?_) | (refine LDr.gT rfl rfl rfl rfl rfl (AnsL.lenM tT_ok rfl rfl rfl) ?_) | (refine LDr.fl rfl rfl (AnsL.lenS tT_ok rfl rfl rfl rfl) ?_) | (refine LDr.gT rfl rfl rfl rfl rfl (AnsL.lenS tT_ok rfl rfl rfl rfl) ?_) | (refine LDr.fl rfl rfl (AnsL.lenG tT_ok rfl rfl rfl) ?_) | (refine LDr.gT rfl rfl rfl rfl rfl (AnsL.lenG tT_ok rfl rfl rfl) ?_)) | (refine kDBin rfl ?_; first | (refine LDr.fl rfl rfl (AnsL.add rfl rfl ?_) ?_; (focus (constructor <;> omega))) | (refine LDr.gT rfl rfl rfl rfl rfl (AnsL.add rfl rfl ?_) ?_; (focus (constructor <;> omega))) | (refine LDr.fl rfl rfl (AnsL.arith rfl rfl rfl) ?_) | (refine LDr.gT rfl rfl rfl rfl rfl (AnsL.arith rfl rfl rfl) ?_)) | (refine kDIdx rfl ?_; first | (refine LDr.fl rfl rfl (AnsL.idx tT_ok rfl rfl rfl rfl rfl hga rfl rfl) ?_) | (refine LDr.gT rfl rfl rfl rfl rfl (AnsL.idx tT_ok rfl rfl rfl rfl rfl hga rfl rfl) ?_) | (refine LDr.fl rfl rfl (AnsL.idx tT_ok rfl rfl rfl rfl rfl hgb rfl rfl) ?_) | (refine LDr.gT rfl rfl rfl rfl rfl (AnsL.idx tT_ok rfl rfl rfl rfl rfl hgb rfl rfl) ?_) | (refine LDr.fl rfl rfl (AnsL.idxA tT_ok rfl rfl rfl rfl rfl (by omega) rfl rfl) ?_) | (refine LDr.gT rfl rfl rfl rfl rfl (AnsL.idxA tT_ok rfl rfl rfl rfl rfl (by omega) rfl rfl) ?_) | (refine LDr.fl rfl rfl (AnsL.idxZ tT_ok rfl rfl rfl rfl rfl ?_ rfl rfl rfl) ?_; (focus (decide))) | (refine LDr.gT rfl rfl rfl rfl rfl (AnsL.idxZ tT_ok rfl rfl rfl rfl rfl ?_ rfl rfl rfl) ?_; (focus (decide)))) | (refine kDCallN 132 rfl ?_; first | (refine LDr.fl rfl rfl (AnsL.callP rfl rfl rfl (ok132) (hE _)) ?_) | (refine LDr.gT rfl rfl rfl rfl rfl (AnsL.callP rfl rfl rfl (ok132) (hE _)) ?_)) | (refine LDr.gD true rfl rfl rfl rfl ?_ ?_; (focus (first | (assumption) | (exact decide_eq_true (by assumption)) | (exact decide_eq_false (by assumption)) | (simp only [decide_eq_true_eq, decide_eq_false_iff_not, Bool.not_eq_true', Bool.not_eq_false', Int.ofNat_lt, Int.ofNat_le, Int.ofNat_inj, not_true_eq_false, not_false_eq_true]; omega) | (simp <;> fail)))) | (refine LDr.gD false rfl rfl rfl rfl ?_ ?_; (focus (first | (assumption) | (exact decide_eq_true (by assumption)) | (exact decide_eq_false (by assumption)) | (simp only [decide_eq_true_eq, decide_eq_false_iff_not, Bool.not_eq_true', Bool.not_eq_false', Int.ofNat_lt, Int.ofNat_le, Int.ofNat_inj, not_true_eq_false, not_false_eq_true]; omega) | (simp <;> fail)))) | (refine LDr.gC rfl rfl rfl rfl (fun h => ?_) (fun h => ?_)))
        | (refine lthen_n ?_)
        | (refine lthen_r ?_)
        | (refine lthen_e ?_)
        | (refine lblock_n ?_)
        | (refine lblock_r ?_)
        | (refine lblock_e ?_)
        | (refine lblock_o rfl ?_)
        | (refine lback_r ?_)
        | (refine lback_e ?_)
        | (refine lbackD_r ?_)
        | (refine lbackD_e ?_)
        | (refine lbackH_r ?_)
        | (refine lbackH_e ?_)
        | (refine LPost.r1 (r := .tmp 4) (.inl rfl) (Res1.tmp rfl) ?_)
        | (refine PureR.mk ?_)
      all_goals simp_all
    · skip
      repeat' first
        | (refine kOps ?_; first | (refine LOps.nil ?_) | (refine kG ?_; first | (refine LOps.gT rfl rfl rfl ?_) | (refine LOps.gF rfl rfl rfl ?_) | (refine LOps.gU rfl rfl ?_) | (refine LOps.gFN rfl rfl rfl ?_) | (refine LOps.gD true rfl rfl rfl ?_ ?_; (focus (first | (assumption) | (exact decide_eq_true (by assumption)) | (exact decide_eq_false (by assumption)) | (simp only [decide_eq_true_eq, decide_eq_false_iff_not, Bool.not_eq_true', Bool.not_eq_false', Int.ofNat_lt, Int.ofNat_le, Int.ofNat_inj, not_true_eq_false, not_false_eq_true]; omega) | (simp <;> fail)))) | (refine LOps.gD false rfl rfl rfl ?_ ?_; (focus (first | (assumption) | (exact decide_eq_true (by assumption)) | (exact decide_eq_false (by assumption)) | (simp only [decide_eq_true_eq, decide_eq_false_iff_not, Bool.not_eq_true', Bool.not_eq_false', Int.ofNat_lt, Int.ofNat_le, Int.ofNat_inj, not_true_eq_false, not_false_eq_true]; omega) | (simp <;> fail)))) | (refine LOps.gC rfl rfl rfl (fun h => ?_) (fun h => ?_))) | (refine LOps.ev tT_ok rfl ?_) | (refine kBox ?_; refine LOps.box rfl rfl rfl rfl ?_) | (refine kLoad ?_; first | (refine LOps.ans (AnsL.loadP tT_ok rfl rfl rfl rfl) ?_)) | (refine kLen ?_; first | (refine LOps.ans (AnsL.lenM tT_ok rfl rfl rfl) ?_) | (refine LOps.ans (AnsL.lenS tT_ok rfl rfl rfl rfl) ?_) | (refine LOps.ans (AnsL.lenG tT_ok rfl rfl rfl) ?_)) | (refine kBin ?_; first | (refine LOps.ans (AnsL.add rfl rfl ?_) ?_; (focus (constructor <;> omega))) | (refine LOps.ans (AnsL.arith rfl rfl rfl) ?_)) | (refine kIdx ?_; first | (refine LOps.ans (AnsL.idx tT_ok rfl rfl rfl rfl rfl hga rfl rfl) ?_) | (refine LOps.ans (AnsL.idx tT_ok rfl rfl rfl rfl rfl hgb rfl rfl) ?_) | (refine LOps.ans (AnsL.idxA tT_ok rfl rfl rfl rfl rfl (by omega) rfl rfl) ?_) | (refine LOps.ans (AnsL.idxZ tT_ok rfl rfl rfl rfl rfl ?_ rfl rfl rfl) ?_; (focus (decide)))) | (refine kCallN 132 ?_; first | (refine LOps.ans (AnsL.callP rfl rfl rfl (ok132) (hE _)) ?_)))
        | (refine kWL ?_; first | (refine WL.seq ?_) | (refine WL.region (by kernel_rfl) ?_) | (refine WL.drawn (id := 6) [0, 1, 2, 3, 4, 5, 6, 7, 8, 9, 10, 11] [] [[], [0], [], [0, 1, 2], [0, 1, 2, 3], [], [5], [], [5, 6, 7], [5, 6, 7, 8], [0, 1, 2, 3, 4, 5, 6, 7, 8, 9], [0, 1, 2, 3, 4, 5, 6, 7, 8, 9, 10]] (by kernel_rfl) (by kernel_rfl) ?_) | (refine WL.block ?_) | (refine WL.exit ?_) | (refine WL.skip ?_) | (refine WL.ret ?_) | (refine kCond ?_; first | (refine WL.condT rfl ?_) | (refine WL.condF rfl ?_) | (refine WL.condT' rfl ?_ ?_; (focus (first | (assumption) | (exact decide_eq_true (by assumption)) | (exact decide_eq_false (by assumption)) | (simp only [decide_eq_true_eq, decide_eq_false_iff_not, Bool.not_eq_true', Bool.not_eq_false', Int.ofNat_lt, Int.ofNat_le, Int.ofNat_inj, not_true_eq_false, not_false_eq_true]; omega) | (simp <;> fail)))) | (refine WL.condF' rfl ?_ ?_; (focus (first | (assumption) | (exact decide_eq_true (by assumption)) | (exact decide_eq_false (by assumption)) | (simp only [decide_eq_true_eq, decide_eq_false_iff_not, Bool.not_eq_true', Bool.not_eq_false', Int.ofNat_lt, Int.ofNat_le, Int.ofNat_inj, not_true_eq_false, not_false_eq_true]; omega) | (simp <;> fail)))) | (refine WL.cond rfl (fun h => ?_) (fun h => ?_))))
        | (refine kDr ?_; first | (refine LDr.nil ?_) | (refine LDr.fl rfl rfl (.ev tT_ok rfl) ?_) | (refine LDr.gF rfl rfl rfl rfl rfl ?_) | (refine LDr.gU rfl rfl rfl rfl ?_) | (refine LDr.gT rfl rfl rfl rfl rfl (.ev tT_ok rfl) ?_) | (refine kDLoad rfl ?_; first | (refine LDr.fl rfl rfl (AnsL.loadP tT_ok rfl rfl rfl rfl) ?_) | (refine LDr.gT rfl rfl rfl rfl rfl (AnsL.loadP tT_ok rfl rfl rfl rfl) ?_)) | (refine kDLen rfl ?_; first | (refine LDr.fl rfl rfl (AnsL.lenM tT_ok rfl rfl rfl) ?_) | (refine LDr.gT rfl rfl rfl rfl rfl (AnsL.lenM tT_ok rfl rfl rfl) ?_) | (refine LDr.fl rfl rfl (AnsL.lenS tT_ok rfl rfl rfl rfl) ?_) | (refine LDr.gT rfl rfl rfl rfl rfl (AnsL.lenS tT_ok rfl rfl rfl rfl) ?_) | (refine LDr.fl rfl rfl (AnsL.lenG tT_ok rfl rfl rfl) ?_) | (refine LDr.gT rfl rfl rfl rfl rfl (AnsL.lenG tT_ok rfl rfl rfl) ?_)) | (refine kDBin rfl ?_; first | (refine LDr.fl rfl rfl (AnsL.add rfl rfl ?_) ?_; (focus (constructor <;> omega))) | (refine LDr.gT rfl rfl rfl rfl rfl (AnsL.add rfl rfl ?_) ?_; (focus (constructor <;> omega))) | (refine LDr.fl rfl rfl (AnsL.arith rfl rfl rfl) ?_) | (refine LDr.gT rfl rfl rfl rfl rfl (AnsL.arith rfl rfl rfl) ?_)) | (refine kDIdx rfl ?_; first | (refine LDr.fl rfl rfl (AnsL.idx tT_ok rfl rfl rfl rfl rfl hga rfl rfl) ?_) | (refine LDr.gT rfl rfl rfl rfl rfl (AnsL.idx tT_ok rfl rfl rfl rfl rfl hga rfl rfl) ?_) | (refine LDr.fl rfl rfl (AnsL.idx tT_ok rfl rfl rfl rfl rfl hgb rfl rfl) ?_) | (refine LDr.gT rfl rfl rfl rfl rfl (AnsL.idx tT_ok rfl rfl rfl rfl rfl hgb rfl rfl) ?_) | (refine LDr.fl rfl rfl (AnsL.idxA tT_ok rfl rfl rfl rfl rfl (by omega) rfl rfl) ?_) | (refine LDr.gT rfl rfl rfl rfl rfl (AnsL.idxA tT_ok rfl rfl rfl rfl rfl (by omega) rfl rfl) ?_) | (refine LDr.fl rfl rfl (AnsL.idxZ tT_ok rfl rfl rfl rfl rfl ?_ rfl rfl rfl) ?_; (focus (decide))) | (refine LDr.gT rfl rfl rfl rfl rfl (AnsL.idxZ tT_ok rfl rfl rfl rfl rfl ?_ rfl rfl rfl) ?_; (focus (decide)))) | (refine kDCallN 132 rfl ?_; first | (refine LDr.fl rfl rfl (AnsL.callP rfl rfl rfl (ok132) (hE _)) ?_) | (refine LDr.gT rfl rfl rfl rfl rfl (AnsL.callP rfl rfl rfl (ok132) (hE _)) ?_)) | (refine LDr.gD true rfl rfl rfl rfl ?_ ?_; (focus (first | (assumption) | (exact decide_eq_true (by assumption)) | (exact decide_eq_false (by assumption)) | (simp only [decide_eq_true_eq, decide_eq_false_iff_not, Bool.not_eq_true', Bool.not_eq_false', Int.ofNat_lt, Int.ofNat_le, Int.ofNat_inj, not_true_eq_false, not_false_eq_true]; omega) | (simp <;> fail)))) | (refine LDr.gD false rfl rfl rfl rfl ?_ ?_; (focus (first | (assumption) | (exact decide_eq_true (by assumption)) | (exact decide_eq_false (by assumption)) | (simp only [decide_eq_true_eq, decide_eq_false_iff_not, Bool.not_eq_true', Bool.not_eq_false', Int.ofNat_lt, Int.ofNat_le, Int.ofNat_inj, not_true_eq_false, not_false_eq_true]; omega) | (simp <;> fail)))) | (refine LDr.gC rfl rfl rfl rfl (fun h => ?_) (fun h => ?_)))
        | (refine lthen_n ?_)
        | (refine lthen_r ?_)
        | (refine lthen_e ?_)
        | (refine lblock_n ?_)
        | (refine lblock_r ?_)
        | (refine lblock_e ?_)
        | (refine lblock_o rfl ?_)
        | (refine lback_r ?_)
        | (refine lback_e ?_)
        | (refine lbackD_r ?_)
        | (refine lbackD_e ?_)
        | (refine lbackH_r ?_)
        | (refine lbackH_e ?_)
        | (refine LPost.r1 (r := .tmp 4) (.inl rfl) (Res1.tmp rfl) ?_)
        | (refine PureR.mk ?_)
      all_goals
        refine lbackD.of (i + 1) ?_ ?_ ?_ ?_
        · first | omega | (refine ⟨?_, ?_⟩; (focus (first | omega | (simp; omega))); (first | omega | (simp_all [hc, hp] <;> fail) | (simp_all [hc, hp]; omega))) | (simp_all [hc, hp] <;> fail) | (simp_all [hc, hp]; omega)
        · first | omega | (simp; omega) | simp_all
        · repeat' first
            | exact SubL.nil
            | (refine SubL.mk rfl ?_ ?_)
            | rfl
            | (simp [hc, hp] <;> fail)
            | (simp [hc, hp]; omega)
        · first | rfl | (simp [hc, hp] <;> fail) | (simp [hc, hp]; omega)
  · rw [eqAll_end hge] at hc
    repeat' first
      | (refine kOps ?_; first | (refine LOps.nil ?_) | (refine kG ?_; first | (refine LOps.gT rfl rfl rfl ?_) | (refine LOps.gF rfl rfl rfl ?_) | (refine LOps.gU rfl rfl ?_) | (refine LOps.gFN rfl rfl rfl ?_) | (refine LOps.gD true rfl rfl rfl ?_ ?_; (focus (first | (assumption) | (exact decide_eq_true (by assumption)) | (exact decide_eq_false (by assumption)) | (simp only [decide_eq_true_eq, decide_eq_false_iff_not, Bool.not_eq_true', Bool.not_eq_false', Int.ofNat_lt, Int.ofNat_le, Int.ofNat_inj, not_true_eq_false, not_false_eq_true]; omega) | (simp <;> fail)))) | (refine LOps.gD false rfl rfl rfl ?_ ?_; (focus (first | (assumption) | (exact decide_eq_true (by assumption)) | (exact decide_eq_false (by assumption)) | (simp only [decide_eq_true_eq, decide_eq_false_iff_not, Bool.not_eq_true', Bool.not_eq_false', Int.ofNat_lt, Int.ofNat_le, Int.ofNat_inj, not_true_eq_false, not_false_eq_true]; omega) | (simp <;> fail)))) | (refine LOps.gC rfl rfl rfl (fun h => ?_) (fun h => ?_))) | (refine LOps.ev tT_ok rfl ?_) | (refine kBox ?_; refine LOps.box rfl rfl rfl rfl ?_) | (refine kLoad ?_; first | (refine LOps.ans (AnsL.loadP tT_ok rfl rfl rfl rfl) ?_)) | (refine kLen ?_; first | (refine LOps.ans (AnsL.lenM tT_ok rfl rfl rfl) ?_) | (refine LOps.ans (AnsL.lenS tT_ok rfl rfl rfl rfl) ?_) | (refine LOps.ans (AnsL.lenG tT_ok rfl rfl rfl) ?_)) | (refine kBin ?_; first | (refine LOps.ans (AnsL.add rfl rfl ?_) ?_; (focus (constructor <;> omega))) | (refine LOps.ans (AnsL.arith rfl rfl rfl) ?_)) | (refine kIdx ?_; first | (refine LOps.ans (AnsL.idxA tT_ok rfl rfl rfl rfl rfl (by omega) rfl rfl) ?_) | (refine LOps.ans (AnsL.idxZ tT_ok rfl rfl rfl rfl rfl ?_ rfl rfl rfl) ?_; (focus (decide)))))
      | (refine kWL ?_; first | (refine WL.seq ?_) | (refine WL.region (by kernel_rfl) ?_) | (refine WL.drawn (id := 6) [0, 1, 2, 3, 4, 5, 6, 7, 8, 9, 10, 11] [] [[], [0], [], [0, 1, 2], [0, 1, 2, 3], [], [5], [], [5, 6, 7], [5, 6, 7, 8], [0, 1, 2, 3, 4, 5, 6, 7, 8, 9], [0, 1, 2, 3, 4, 5, 6, 7, 8, 9, 10]] (by kernel_rfl) (by kernel_rfl) ?_) | (refine WL.block ?_) | (refine WL.exit ?_) | (refine WL.skip ?_) | (refine WL.ret ?_) | (refine kCond ?_; first | (refine WL.condT rfl ?_) | (refine WL.condF rfl ?_) | (refine WL.condT' rfl ?_ ?_; (focus (first | (assumption) | (exact decide_eq_true (by assumption)) | (exact decide_eq_false (by assumption)) | (simp only [decide_eq_true_eq, decide_eq_false_iff_not, Bool.not_eq_true', Bool.not_eq_false', Int.ofNat_lt, Int.ofNat_le, Int.ofNat_inj, not_true_eq_false, not_false_eq_true]; omega) | (simp <;> fail)))) | (refine WL.condF' rfl ?_ ?_; (focus (first | (assumption) | (exact decide_eq_true (by assumption)) | (exact decide_eq_false (by assumption)) | (simp only [decide_eq_true_eq, decide_eq_false_iff_not, Bool.not_eq_true', Bool.not_eq_false', Int.ofNat_lt, Int.ofNat_le, Int.ofNat_inj, not_true_eq_false, not_false_eq_true]; omega) | (simp <;> fail)))) | (refine WL.cond rfl (fun h => ?_) (fun h => ?_))))
      | (refine kDr ?_; first | (refine LDr.nil ?_) | (refine LDr.fl rfl rfl (.ev tT_ok rfl) ?_) | (refine LDr.gF rfl rfl rfl rfl rfl ?_) | (refine LDr.gU rfl rfl rfl rfl ?_) | (refine LDr.gT rfl rfl rfl rfl rfl (.ev tT_ok rfl) ?_) | (refine kDLoad rfl ?_; first | (refine LDr.fl rfl rfl (AnsL.loadP tT_ok rfl rfl rfl rfl) ?_) | (refine LDr.gT rfl rfl rfl rfl rfl (AnsL.loadP tT_ok rfl rfl rfl rfl) ?_)) | (refine kDLen rfl ?_; first | (refine LDr.fl rfl rfl (AnsL.lenM tT_ok rfl rfl rfl) ?_) | (refine LDr.gT rfl rfl rfl rfl rfl (AnsL.lenM tT_ok rfl rfl rfl) ?_) | (refine LDr.fl rfl rfl (AnsL.lenS tT_ok rfl rfl rfl rfl) ?_) | (refine LDr.gT rfl rfl rfl rfl rfl (AnsL.lenS tT_ok rfl rfl rfl rfl) ?_) | (refine LDr.fl rfl rfl (AnsL.lenG tT_ok rfl rfl rfl) ?_) | (refine LDr.gT rfl rfl rfl rfl rfl (AnsL.lenG tT_ok rfl rfl rfl) ?_)) | (refine kDBin rfl ?_; first | (refine LDr.fl rfl rfl (AnsL.add rfl rfl ?_) ?_; (focus (constructor <;> omega))) | (refine LDr.gT rfl rfl rfl rfl rfl (AnsL.add rfl rfl ?_) ?_; (focus (constructor <;> omega))) | (refine LDr.fl rfl rfl (AnsL.arith rfl rfl rfl) ?_) | (refine LDr.gT rfl rfl rfl rfl rfl (AnsL.arith rfl rfl rfl) ?_)) | (refine kDIdx rfl ?_; first | (refine LDr.fl rfl rfl (AnsL.idxA tT_ok rfl rfl rfl rfl rfl (by omega) rfl rfl) ?_) | (refine LDr.gT rfl rfl rfl rfl rfl (AnsL.idxA tT_ok rfl rfl rfl rfl rfl (by omega) rfl rfl) ?_) | (refine LDr.fl rfl rfl (AnsL.idxZ tT_ok rfl rfl rfl rfl rfl ?_ rfl rfl rfl) ?_; (focus (decide))) | (refine LDr.gT rfl rfl rfl rfl rfl (AnsL.idxZ tT_ok rfl rfl rfl rfl rfl ?_ rfl rfl rfl) ?_; (focus (decide)))) | (refine LDr.gD true rfl rfl rfl rfl ?_ ?_; (focus (first | (assumption) | (exact decide_eq_true (by assumption)) | (exact decide_eq_false (by assumption)) | (simp only [decide_eq_true_eq, decide_eq_false_iff_not, Bool.not_eq_true', Bool.not_eq_false', Int.ofNat_lt, Int.ofNat_le, Int.ofNat_inj, not_true_eq_false, not_false_eq_true]; omega) | (simp <;> fail)))) | (refine LDr.gD false rfl rfl rfl rfl ?_ ?_; (focus (first | (assumption) | (exact decide_eq_true (by assumption)) | (exact decide_eq_false (by assumption)) | (simp only [decide_eq_true_eq, decide_eq_false_iff_not, Bool.not_eq_true', Bool.not_eq_false', Int.ofNat_lt, Int.ofNat_le, Int.ofNat_inj, not_true_eq_false, not_false_eq_true]; omega) | (simp <;> fail)))) | (refine LDr.gC rfl rfl rfl rfl (fun h => ?_) (fun h => ?_)))
      | (refine lthen_n ?_)
      | (refine lthen_r ?_)
      | (refine lthen_e ?_)
      | (refine lblock_n ?_)
      | (refine lblock_r ?_)
      | (refine lblock_e ?_)
      | (refine lblock_o rfl ?_)
      | (refine lback_r ?_)
      | (refine lback_e ?_)
      | (refine lbackD_r ?_)
      | (refine lbackD_e ?_)
      | (refine lbackH_r ?_)
      | (refine lbackH_e ?_)
      | (refine LPost.r1 (r := .tmp 4) (.inl rfl) (Res1.tmp rfl) ?_)
      | (refine PureR.mk ?_)
    show V.bool _ = _; simp_all
set_option maxHeartbeats 16000000 in
theorem lawSameSPlan_v (x y : SPl) (s : S) : VCalls Try.prog 12 [SP.v x, SP.v y] s (fun v _ => v = .bool true) := by
  refine LCalls.body Try.func12 rfl (by kernel_rfl) ?_
  obtain ⟨wx, hwx⟩ : ∃ w, wgt (SP.v x) = w := ⟨_, rfl⟩
  obtain ⟨wy, hwy⟩ : ∃ w, wgt (SP.v y) = w := ⟨_, rfl⟩
  have tx := fun h t => (toSPlan_c x h).pure (SP.plain x) t
  have ty := fun h t => (toSPlan_c y h).pure (SP.plain y) t
  have ex := fun h t => eqSPlan_c x h t
  have ey := fun h t => eqSPlan_c y h t
  rw [hwx] at tx ex
  rw [hwy] at ty ey
  by_cases hb : 1048576 < wx
  · skip
    repeat' first
      | (refine kOps ?_; first | (refine LOps.nil ?_) | (refine kStore ?_; refine LOps.storeP tT_ok rfl rfl rfl rfl rfl rfl rfl rfl rfl ?_) | (refine LOps.ev tT_ok rfl ?_) | (refine kBox ?_; refine LOps.box rfl rfl rfl rfl ?_) | (refine kAlloc ?_; refine LOps.alloc tT_ok rfl rfl rfl rfl ?_) | (refine kLoad ?_; first | (refine LOps.ans (AnsL.loadP tT_ok rfl rfl rfl rfl) ?_)) | (refine kCallN 53 ?_; first | (refine LOps.ans (AnsL.callP rfl rfl rfl (ok53) ((szSPlan_c x).now hwx ?_ ?_ ?_ _)) ?_; (focus (omega)); (focus (omega)); (focus (omega)))))
      | (refine kWL ?_; first | (refine WL.seq ?_) | (refine WL.region (by kernel_rfl) ?_) | (refine WL.drawn (id := 8) [0, 1, 2, 3, 4, 5] [] [[], [0], [], [0, 1, 2], [0, 1, 2, 3], [0, 1, 2, 3, 4]] (by kernel_rfl) (by kernel_rfl) ?_) | (refine WL.drawn (id := 14) [0, 1, 2, 3, 4] [] [[], [], [1], [0, 1, 2], [0, 1, 2, 3]] (by kernel_rfl) (by kernel_rfl) ?_) | (refine WL.drawn (id := 16) [0, 1, 2, 3, 4] [] [[], [], [1], [0, 1, 2], [0, 1, 2, 3]] (by kernel_rfl) (by kernel_rfl) ?_) | (refine WL.skip ?_) | (refine WL.ret ?_) | (refine kCond ?_; first | (refine WL.condT rfl ?_) | (refine WL.condF rfl ?_) | (refine WL.condT' rfl ?_ ?_; (focus (first | (assumption) | (exact decide_eq_true (by assumption)) | (exact decide_eq_false (by assumption)) | (simp only [decide_eq_true_eq, decide_eq_false_iff_not, Bool.not_eq_true', Bool.not_eq_false', Int.ofNat_lt, Int.ofNat_le, Int.ofNat_inj, not_true_eq_false, not_false_eq_true]; omega) | (simp <;> fail)))) | (refine WL.condF' rfl ?_ ?_; (focus (first | (assumption) | (exact decide_eq_true (by assumption)) | (exact decide_eq_false (by assumption)) | (simp only [decide_eq_true_eq, decide_eq_false_iff_not, Bool.not_eq_true', Bool.not_eq_false', Int.ofNat_lt, Int.ofNat_le, Int.ofNat_inj, not_true_eq_false, not_false_eq_true]; omega) | (simp <;> fail)))) | (refine WL.cond rfl (fun h => ?_) (fun h => ?_))))
      | (refine kDr ?_; first | (refine LDr.nil ?_) | (refine LDr.fl rfl rfl (.ev tT_ok rfl) ?_) | (refine kDLoad rfl ?_; first | (refine LDr.fl rfl rfl (AnsL.loadP tT_ok rfl rfl rfl rfl) ?_)) | (refine kDCallN 53 rfl ?_; first | (refine LDr.fl rfl rfl (AnsL.callP rfl rfl rfl (ok53) ((szSPlan_c x).now hwx ?_ ?_ ?_ _)) ?_; (focus (omega)); (focus (omega)); (focus (omega)))))
      | (refine lthen_n ?_)
      | (refine lthen_r ?_)
      | (refine lback_r ?_)
      | (refine lback_e ?_)
      | (refine lbackD_r ?_)
      | (refine lbackD_e ?_)
      | (refine lbackH_r ?_)
      | (refine lbackH_e ?_)
      | (refine LPost.r1 (r := .tmp 4) (.inl rfl) (Res1.tmp rfl) ?_)
      | (refine PureR.mk ?_)
    rfl
  by_cases hb2 : 1048576 < wx + wy
  · skip
    repeat' first
      | (refine kOps ?_; first | (refine LOps.nil ?_) | (refine kStore ?_; refine LOps.storeP tT_ok rfl rfl rfl rfl rfl rfl rfl rfl rfl ?_) | (refine LOps.ev tT_ok rfl ?_) | (refine kBox ?_; refine LOps.box rfl rfl rfl rfl ?_) | (refine kAlloc ?_; refine LOps.alloc tT_ok rfl rfl rfl rfl ?_) | (refine kLoad ?_; first | (refine LOps.ans (AnsL.loadP tT_ok rfl rfl rfl rfl) ?_)) | (refine kCallN 53 ?_; first | (refine LOps.ans (AnsL.callP rfl rfl rfl (ok53) ((szSPlan_c x).okw hwx ?_ ?_ _)) ?_; (focus (omega)); (focus (omega))) | (refine LOps.ans (AnsL.callP rfl rfl rfl (ok53) ((szSPlan_c y).now hwy ?_ ?_ ?_ _)) ?_; (focus (omega)); (focus (omega)); (focus (omega)))))
      | (refine kWL ?_; first | (refine WL.seq ?_) | (refine WL.region (by kernel_rfl) ?_) | (refine WL.drawn (id := 8) [0, 1, 2, 3, 4, 5] [] [[], [0], [], [0, 1, 2], [0, 1, 2, 3], [0, 1, 2, 3, 4]] (by kernel_rfl) (by kernel_rfl) ?_) | (refine WL.drawn (id := 14) [0, 1, 2, 3, 4] [] [[], [], [1], [0, 1, 2], [0, 1, 2, 3]] (by kernel_rfl) (by kernel_rfl) ?_) | (refine WL.drawn (id := 16) [0, 1, 2, 3, 4] [] [[], [], [1], [0, 1, 2], [0, 1, 2, 3]] (by kernel_rfl) (by kernel_rfl) ?_) | (refine WL.skip ?_) | (refine WL.ret ?_) | (refine kCond ?_; first | (refine WL.condT rfl ?_) | (refine WL.condF rfl ?_) | (refine WL.condT' rfl ?_ ?_; (focus (first | (assumption) | (exact decide_eq_true (by assumption)) | (exact decide_eq_false (by assumption)) | (simp only [decide_eq_true_eq, decide_eq_false_iff_not, Bool.not_eq_true', Bool.not_eq_false', Int.ofNat_lt, Int.ofNat_le, Int.ofNat_inj, not_true_eq_false, not_false_eq_true]; omega) | (simp <;> fail)))) | (refine WL.condF' rfl ?_ ?_; (focus (first | (assumption) | (exact decide_eq_true (by assumption)) | (exact decide_eq_false (by assumption)) | (simp only [decide_eq_true_eq, decide_eq_false_iff_not, Bool.not_eq_true', Bool.not_eq_false', Int.ofNat_lt, Int.ofNat_le, Int.ofNat_inj, not_true_eq_false, not_false_eq_true]; omega) | (simp <;> fail)))) | (refine WL.cond rfl (fun h => ?_) (fun h => ?_))))
      | (refine kDr ?_; first | (refine LDr.nil ?_) | (refine LDr.fl rfl rfl (.ev tT_ok rfl) ?_) | (refine kDLoad rfl ?_; first | (refine LDr.fl rfl rfl (AnsL.loadP tT_ok rfl rfl rfl rfl) ?_)) | (refine kDCallN 53 rfl ?_; first | (refine LDr.fl rfl rfl (AnsL.callP rfl rfl rfl (ok53) ((szSPlan_c x).okw hwx ?_ ?_ _)) ?_; (focus (omega)); (focus (omega))) | (refine LDr.fl rfl rfl (AnsL.callP rfl rfl rfl (ok53) ((szSPlan_c y).now hwy ?_ ?_ ?_ _)) ?_; (focus (omega)); (focus (omega)); (focus (omega)))))
      | (refine lthen_n ?_)
      | (refine lthen_r ?_)
      | (refine lback_r ?_)
      | (refine lback_e ?_)
      | (refine lbackD_r ?_)
      | (refine lbackD_e ?_)
      | (refine lbackH_r ?_)
      | (refine lbackH_e ?_)
      | (refine LPost.r1 (r := .tmp 4) (.inl rfl) (Res1.tmp rfl) ?_)
      | (refine PureR.mk ?_)
    rfl
  repeat' first
    | (refine kOps ?_; first | (refine LOps.nil ?_) | (refine kStore ?_; refine LOps.storeP tT_ok rfl rfl rfl rfl rfl rfl rfl rfl rfl ?_) | (refine LOps.ev tT_ok rfl ?_) | (refine kBox ?_; refine LOps.box rfl rfl rfl rfl ?_) | (refine kAlloc ?_; refine LOps.alloc tT_ok rfl rfl rfl rfl ?_) | (refine kLoad ?_; first | (refine LOps.ans (AnsL.loadP tT_ok rfl rfl rfl rfl) ?_)) | (refine kCallN 53 ?_; first | (refine LOps.ans (AnsL.callP rfl rfl rfl (ok53) ((szSPlan_c x).okw hwx ?_ ?_ _)) ?_; (focus (omega)); (focus (omega))) | (refine LOps.ans (AnsL.callP rfl rfl rfl (ok53) ((szSPlan_c y).okw hwy ?_ ?_ _)) ?_; (focus (omega)); (focus (omega)))) | (refine kCallN 54 ?_; first | (refine LOps.ans (AnsL.callP rfl rfl rfl (ok54) (specSameSPlan_v x y _)) ?_)) | (refine kCallN 55 ?_; first | (refine LOps.ans (AnsL.callP rfl rfl rfl (ok55) (tx ?_ _)) ?_; (focus (omega))) | (refine LOps.ans (AnsL.callP rfl rfl rfl (ok55) (ty ?_ _)) ?_; (focus (omega)))) | (refine kCallN 56 ?_; first | (refine LOps.ans (AnsL.callP rfl rfl rfl (ok56) (implSameSPlan_v x y _)) ?_)) | (refine kCallN 57 ?_; first | (refine LOps.ans (AnsL.callP rfl rfl rfl (ok57) (ex ?_ _)) ?_; (focus (omega))) | (refine LOps.ans (AnsL.callP rfl rfl rfl (ok57) (ey ?_ _)) ?_; (focus (omega)))))
    | (refine kWL ?_; first | (refine WL.seq ?_) | (refine WL.region (by kernel_rfl) ?_) | (refine WL.drawn (id := 8) [0, 1, 2, 3, 4, 5] [] [[], [0], [], [0, 1, 2], [0, 1, 2, 3], [0, 1, 2, 3, 4]] (by kernel_rfl) (by kernel_rfl) ?_) | (refine WL.drawn (id := 14) [0, 1, 2, 3, 4] [] [[], [], [1], [0, 1, 2], [0, 1, 2, 3]] (by kernel_rfl) (by kernel_rfl) ?_) | (refine WL.drawn (id := 16) [0, 1, 2, 3, 4] [] [[], [], [1], [0, 1, 2], [0, 1, 2, 3]] (by kernel_rfl) (by kernel_rfl) ?_) | (refine WL.skip ?_) | (refine WL.ret ?_) | (refine kCond ?_; first | (refine WL.condT rfl ?_) | (refine WL.condF rfl ?_) | (refine WL.condT' rfl ?_ ?_; (focus (first | (assumption) | (exact decide_eq_true (by assumption)) | (exact decide_eq_false (by assumption)) | (simp only [decide_eq_true_eq, decide_eq_false_iff_not, Bool.not_eq_true', Bool.not_eq_false', Int.ofNat_lt, Int.ofNat_le, Int.ofNat_inj, not_true_eq_false, not_false_eq_true]; omega) | (simp <;> fail)))) | (refine WL.condF' rfl ?_ ?_; (focus (first | (assumption) | (exact decide_eq_true (by assumption)) | (exact decide_eq_false (by assumption)) | (simp only [decide_eq_true_eq, decide_eq_false_iff_not, Bool.not_eq_true', Bool.not_eq_false', Int.ofNat_lt, Int.ofNat_le, Int.ofNat_inj, not_true_eq_false, not_false_eq_true]; omega) | (simp <;> fail)))) | (refine WL.cond rfl (fun h => ?_) (fun h => ?_))))
    | (refine kDr ?_; first | (refine LDr.nil ?_) | (refine LDr.fl rfl rfl (.ev tT_ok rfl) ?_) | (refine kDLoad rfl ?_; first | (refine LDr.fl rfl rfl (AnsL.loadP tT_ok rfl rfl rfl rfl) ?_)) | (refine kDCallN 53 rfl ?_; first | (refine LDr.fl rfl rfl (AnsL.callP rfl rfl rfl (ok53) ((szSPlan_c x).okw hwx ?_ ?_ _)) ?_; (focus (omega)); (focus (omega))) | (refine LDr.fl rfl rfl (AnsL.callP rfl rfl rfl (ok53) ((szSPlan_c y).okw hwy ?_ ?_ _)) ?_; (focus (omega)); (focus (omega)))) | (refine kDCallN 54 rfl ?_; first | (refine LDr.fl rfl rfl (AnsL.callP rfl rfl rfl (ok54) (specSameSPlan_v x y _)) ?_)) | (refine kDCallN 55 rfl ?_; first | (refine LDr.fl rfl rfl (AnsL.callP rfl rfl rfl (ok55) (tx ?_ _)) ?_; (focus (omega))) | (refine LDr.fl rfl rfl (AnsL.callP rfl rfl rfl (ok55) (ty ?_ _)) ?_; (focus (omega)))) | (refine kDCallN 56 rfl ?_; first | (refine LDr.fl rfl rfl (AnsL.callP rfl rfl rfl (ok56) (implSameSPlan_v x y _)) ?_)) | (refine kDCallN 57 rfl ?_; first | (refine LDr.fl rfl rfl (AnsL.callP rfl rfl rfl (ok57) (ex ?_ _)) ?_; (focus (omega))) | (refine LDr.fl rfl rfl (AnsL.callP rfl rfl rfl (ok57) (ey ?_ _)) ?_; (focus (omega)))))
    | (refine lthen_n ?_)
    | (refine lthen_r ?_)
    | (refine lback_r ?_)
    | (refine lback_e ?_)
    | (refine lbackD_r ?_)
    | (refine lbackD_e ?_)
    | (refine lbackH_r ?_)
    | (refine lbackH_e ?_)
    | (refine LPost.r1 (r := .tmp 4) (.inl rfl) (Res1.tmp rfl) ?_)
    | (refine PureR.mk ?_)
  rfl

end Go.Proofs.Ytejdgmdebfkkeaa
