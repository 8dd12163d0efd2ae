/-
  The law of lifting. Own work; no condition.
-/
import Derived.Test.YtehmlklfbllgcaaDLiftQ
namespace Go.Proofs.Ytehmlklfbllgcaa
open Go
set_option linter.unusedSimpArgs false
set_option linter.unusedVariables false

theorem specLift_t (b : Int) (e : PE) : ∀ u, LfOk b u e → TurnF Try.prog 127 (liftA b u) e.v (e.lf b u).v := by
  induction e using PE.ind with
  | h e ih1 ih2 =>
    intro u ok
    obtain ⟨_, hk, hs⟩ := PE.ups_spec ok.up
    have hw := ok.w
    have hu := ok.u1
    have hu0 := ok.u0
    refine specLift_r e b u ok (fun k hk' => ?_) fun p hp => ?_
    · have := PE.wgt_kid hk'
      exact ih1 k hk' u ⟨ok.b0, ok.b1, ok.u0, by omega, by omega, hk k hk'⟩
    · have a1 := PE.wgt_sub hp
      refine specLiftPlan_r p b (u + 1) (by omega) fun k hk' => ?_
      have a2 := PL.wgt_part1 hk'
      exact ih2 p hp k hk' (u + 1) ⟨ok.b0, ok.b1, by omega, by omega, by omega, hs p hp k hk'⟩
set_option maxHeartbeats 2000000 in
theorem specLifted_c (e : PE) (b : Int) (hw : wgt e.v ≤ 1048576) (s : S) : VCalls Try.prog 50 [e.v, .int .i64 b] s (fun v t => Own2 (liftTop e b).v v t) := by
  have hh : Hold s s.next [] := .start _ _
  have hU := specUps_c e hw
  have hC := specCopy_c e hw
  unfold UpsC at hU
  have hI : ∀ t, VCalls Try.prog 77 [.int .i64 b, .int .i64 0, .int .i64 1000] t (fun v t' => v = .bool (decide (0 ≤ b) && decide (b ≤ 1000)) ∧ t' = t) := fun t => specl1In_v _ _ _ t
  unfold liftTop liftB
  cases hb : (decide (0 ≤ b) && decide (b ≤ 1000))
  all_goals rw [hb] at hI
  · simp only [Bool.false_and, Bool.false_eq_true, if_false]
    refine LCalls.body Try.func50 rfl (by kernel_rfl) ?_
    repeat' first
      | (refine kBox ?_ ; first | (refine LOps.boxH hh rfl rfl ?_ ; intro s n hh))
      | (refine kAlloc ?_ ; refine LOps.allocH tT_ok hh rfl rfl ?_ ; intro s n hh)
      | (refine kStore ?_ ; first | (refine LOps.storeHW tT_ok 0 hh rfl rfl rfl rfl rfl rfl rfl ?_ ; intro s hh) | (refine LOps.storeHW tT_ok 2 hh rfl rfl rfl rfl rfl rfl rfl ?_ ; intro s hh))
      | (refine kCallN 125 ?_ ; refine LOps.lendC rfl rfl rfl ok125 hh (.cons (.pl (PE.plainv e)) .nil) (fun t => hC t) (PE.plainv _) ?_ ; intro s n hh)
      | (refine kOps ?_; first | (refine LOps.nil ?_) | (refine kG ?_; first | (refine LOps.gF rfl rfl rfl ?_)) | (refine LOps.ev tT_ok rfl ?_) | (refine kLoad ?_; first | (refine LOps.ans (AnsL.loadHW tT_ok 0 hh rfl rfl rfl rfl) ?_) | (refine LOps.ans (AnsL.loadH tT_ok 1 hh rfl rfl rfl rfl) ?_)) | (refine kCallN 77 ?_; first | (refine LOps.ans (AnsL.callP rfl rfl rfl (ok77) (hI _)) ?_)))
      | (refine kWL ?_; first | (refine WL.seq ?_) | (refine WL.region (by kernel_rfl) ?_) | (refine WL.ret ?_) | (refine kCond ?_; first | (refine WL.condT rfl ?_)))
      | (refine lthen_n ?_)
      | (refine lthen_r ?_)
      | (refine' LPost.r1 (r := .cell 4 82) (.inl rfl) ?_ ?_; rotate_left 1; (focus (first | exact Res1.cellH 0 tT_ok hh rfl rfl rfl rfl | exact Res1.cellH 1 tT_ok hh rfl rfl rfl rfl | exact Res1.cellH 2 tT_ok hh rfl rfl rfl rfl | exact Res1.cellH 3 tT_ok hh rfl rfl rfl rfl | exact Res1.cellH 4 tT_ok hh rfl rfl rfl rfl | exact Res1.cellH 5 tT_ok hh rfl rfl rfl rfl | exact Res1.cellH 6 tT_ok hh rfl rfl rfl rfl | exact Res1.cellH 7 tT_ok hh rfl rfl rfl rfl | exact Res1.cellHW 0 tT_ok hh rfl rfl rfl rfl | exact Res1.cellHW 1 tT_ok hh rfl rfl rfl rfl | exact Res1.cellHW 2 tT_ok hh rfl rfl rfl rfl | exact Res1.cellHW 3 tT_ok hh rfl rfl rfl rfl | exact Res1.cellHW 4 tT_ok hh rfl rfl rfl rfl | exact Res1.cellHW 5 tT_ok hh rfl rfl rfl rfl | exact Res1.cellHW 6 tT_ok hh rfl rfl rfl rfl | exact Res1.cellHW 7 tT_ok hh rfl rfl rfl rfl)))
    exact Own2.ofH hh (by ((repeat' first | (exact ConsL.nil) | (exact Cons.zsl) | (exact Cons.nilsl) | (refine' Cons.bp ?_; ((repeat' first | (exact Pick.here) | (refine' Pick.there ?_)); done)) | (refine' Cons.ap ?_; ((repeat' first | (exact Pick.here) | (refine' Pick.there ?_)); done)) | (exact Cons.blk 0 rfl rfl rfl) | (exact Cons.blk 1 rfl rfl rfl) | (exact Cons.blk 2 rfl rfl rfl) | (exact Cons.blk 3 rfl rfl rfl) | (exact Cons.blk 4 rfl rfl rfl) | (exact Cons.blk 5 rfl rfl rfl) | (exact Cons.pl rfl rfl) | (exact Cons.pl (by assumption) (by assumption)) | (refine' ConsL.cons ?_ ?_) | (exact ConsL.pls rfl rfl) | (exact ConsL.pls (by assumption) (by assumption)) | (refine' Cons.agg ?_)); done))
  simp only [Bool.and_eq_true, decide_eq_true_eq] at hb
  simp only [Bool.true_and]
  cases hu : e.ups
  all_goals rw [hu] at hU
  · simp only [Bool.false_eq_true, if_false]
    refine LCalls.body Try.func50 rfl (by kernel_rfl) ?_
    repeat' first
      | (refine kBox ?_ ; first | (refine LOps.boxH hh rfl rfl ?_ ; intro s n hh))
      | (refine kAlloc ?_ ; refine LOps.allocH tT_ok hh rfl rfl ?_ ; intro s n hh)
      | (refine kStore ?_ ; first | (refine LOps.storeHW tT_ok 0 hh rfl rfl rfl rfl rfl rfl rfl ?_ ; intro s hh) | (refine LOps.storeHW tT_ok 2 hh rfl rfl rfl rfl rfl rfl rfl ?_ ; intro s hh))
      | (refine kCallN 125 ?_ ; refine LOps.lendC rfl rfl rfl ok125 hh (.cons (.pl (PE.plainv e)) .nil) (fun t => hC t) (PE.plainv _) ?_ ; intro s n hh)
      | (refine kOps ?_; first | (refine LOps.nil ?_) | (refine kG ?_; first | (refine LOps.gT rfl rfl rfl ?_)) | (refine LOps.ev tT_ok rfl ?_) | (refine kLoad ?_; first | (refine LOps.ans (AnsL.loadHW tT_ok 0 hh rfl rfl rfl rfl) ?_) | (refine LOps.ans (AnsL.loadH tT_ok 1 hh rfl rfl rfl rfl) ?_) | (refine LOps.ans (AnsL.loadH tT_ok 3 hh rfl rfl rfl rfl) ?_)) | (refine kCallN 126 ?_; first | (refine LOps.ans (AnsL.callP rfl rfl rfl (ok126) (hU _)) ?_)) | (refine kCallN 77 ?_; first | (refine LOps.ans (AnsL.callP rfl rfl rfl (ok77) (hI _)) ?_)))
      | (refine kWL ?_; first | (refine WL.seq ?_) | (refine WL.region (by kernel_rfl) ?_) | (refine WL.ret ?_) | (refine kCond ?_; first | (refine WL.condT rfl ?_)))
      | (refine lthen_n ?_)
      | (refine lthen_r ?_)
      | (refine' LPost.r1 (r := .cell 4 82) (.inl rfl) ?_ ?_; rotate_left 1; (focus (first | exact Res1.cellH 0 tT_ok hh rfl rfl rfl rfl | exact Res1.cellH 1 tT_ok hh rfl rfl rfl rfl | exact Res1.cellH 2 tT_ok hh rfl rfl rfl rfl | exact Res1.cellH 3 tT_ok hh rfl rfl rfl rfl | exact Res1.cellH 4 tT_ok hh rfl rfl rfl rfl | exact Res1.cellH 5 tT_ok hh rfl rfl rfl rfl | exact Res1.cellH 6 tT_ok hh rfl rfl rfl rfl | exact Res1.cellH 7 tT_ok hh rfl rfl rfl rfl | exact Res1.cellHW 0 tT_ok hh rfl rfl rfl rfl | exact Res1.cellHW 1 tT_ok hh rfl rfl rfl rfl | exact Res1.cellHW 2 tT_ok hh rfl rfl rfl rfl | exact Res1.cellHW 3 tT_ok hh rfl rfl rfl rfl | exact Res1.cellHW 4 tT_ok hh rfl rfl rfl rfl | exact Res1.cellHW 5 tT_ok hh rfl rfl rfl rfl | exact Res1.cellHW 6 tT_ok hh rfl rfl rfl rfl | exact Res1.cellHW 7 tT_ok hh rfl rfl rfl rfl)))
    exact Own2.ofH hh (by ((repeat' first | (exact ConsL.nil) | (exact Cons.zsl) | (exact Cons.nilsl) | (refine' Cons.bp ?_; ((repeat' first | (exact Pick.here) | (refine' Pick.there ?_)); done)) | (refine' Cons.ap ?_; ((repeat' first | (exact Pick.here) | (refine' Pick.there ?_)); done)) | (exact Cons.blk 0 rfl rfl rfl) | (exact Cons.blk 1 rfl rfl rfl) | (exact Cons.blk 2 rfl rfl rfl) | (exact Cons.blk 3 rfl rfl rfl) | (exact Cons.blk 4 rfl rfl rfl) | (exact Cons.blk 5 rfl rfl rfl) | (exact Cons.pl rfl rfl) | (exact Cons.pl (by assumption) (by assumption)) | (refine' ConsL.cons ?_ ?_) | (exact ConsL.pls rfl rfl) | (exact ConsL.pls (by assumption) (by assumption)) | (refine' Cons.agg ?_)); done))
  · simp only [if_true]
    have hL := specLift_t b e 0 ⟨hb.1, hb.2, by omega, by omega, hw, hu⟩
    unfold liftA at hL
    refine LCalls.body Try.func50 rfl (by kernel_rfl) ?_
    repeat' first
      | (refine kBox ?_ ; first | (refine LOps.boxH hh rfl rfl ?_ ; intro s n hh))
      | (refine kAlloc ?_ ; refine LOps.allocH tT_ok hh rfl rfl ?_ ; intro s n hh)
      | (refine kStore ?_ ; first | (refine LOps.storeHW tT_ok 0 hh rfl rfl rfl rfl rfl rfl rfl ?_ ; intro s hh) | (refine LOps.storeHW tT_ok 2 hh rfl rfl rfl rfl rfl rfl rfl ?_ ; intro s hh))
      | (refine kCallN 125 ?_ ; refine LOps.lendC rfl rfl rfl ok125 hh (.cons (.pl (PE.plainv e)) .nil) (fun t => hC t) (PE.plainv _) ?_ ; intro s n hh)
      | (refine kCallN 127 ?_ ; first | (refine LOps.turnH 1 rfl hL rfl ok127 hh rfl rfl ?_ ; intro s hh))
      | (refine kOps ?_; first | (refine LOps.nil ?_) | (refine kG ?_; first | (refine LOps.gT rfl rfl rfl ?_)) | (refine LOps.ev tT_ok rfl ?_) | (refine kLoad ?_; first | (refine LOps.ans (AnsL.loadHW tT_ok 0 hh rfl rfl rfl rfl) ?_) | (refine LOps.ans (AnsL.loadH tT_ok 1 hh rfl rfl rfl rfl) ?_) | (refine LOps.ans (AnsL.loadH tT_ok 3 hh rfl rfl rfl rfl) ?_)) | (refine kCallN 126 ?_; first | (refine LOps.ans (AnsL.callP rfl rfl rfl (ok126) (hU _)) ?_)) | (refine kCallN 77 ?_; first | (refine LOps.ans (AnsL.callP rfl rfl rfl (ok77) (hI _)) ?_)))
      | (refine kWL ?_; first | (refine WL.seq ?_) | (refine WL.region (by kernel_rfl) ?_) | (refine WL.skip ?_) | (refine WL.ret ?_) | (refine kCond ?_; first | (refine WL.condF rfl ?_)))
      | (refine lthen_n ?_)
      | (refine' LPost.r1 (r := .cell 4 82) (.inl rfl) ?_ ?_; rotate_left 1; (focus (first | exact Res1.cellH 0 tT_ok hh rfl rfl rfl rfl | exact Res1.cellH 1 tT_ok hh rfl rfl rfl rfl | exact Res1.cellH 2 tT_ok hh rfl rfl rfl rfl | exact Res1.cellH 3 tT_ok hh rfl rfl rfl rfl | exact Res1.cellH 4 tT_ok hh rfl rfl rfl rfl | exact Res1.cellH 5 tT_ok hh rfl rfl rfl rfl | exact Res1.cellH 6 tT_ok hh rfl rfl rfl rfl | exact Res1.cellH 7 tT_ok hh rfl rfl rfl rfl | exact Res1.cellHW 0 tT_ok hh rfl rfl rfl rfl | exact Res1.cellHW 1 tT_ok hh rfl rfl rfl rfl | exact Res1.cellHW 2 tT_ok hh rfl rfl rfl rfl | exact Res1.cellHW 3 tT_ok hh rfl rfl rfl rfl | exact Res1.cellHW 4 tT_ok hh rfl rfl rfl rfl | exact Res1.cellHW 5 tT_ok hh rfl rfl rfl rfl | exact Res1.cellHW 6 tT_ok hh rfl rfl rfl rfl | exact Res1.cellHW 7 tT_ok hh rfl rfl rfl rfl)))
    exact Own2.ofH hh (by ((repeat' first | (exact ConsL.nil) | (exact Cons.zsl) | (exact Cons.nilsl) | (refine' Cons.bp ?_; ((repeat' first | (exact Pick.here) | (refine' Pick.there ?_)); done)) | (refine' Cons.ap ?_; ((repeat' first | (exact Pick.here) | (refine' Pick.there ?_)); done)) | (exact Cons.blk 0 rfl rfl rfl) | (exact Cons.blk 1 rfl rfl rfl) | (exact Cons.blk 2 rfl rfl rfl) | (exact Cons.blk 3 rfl rfl rfl) | (exact Cons.blk 4 rfl rfl rfl) | (exact Cons.blk 5 rfl rfl rfl) | (exact Cons.pl rfl rfl) | (exact Cons.pl (by assumption) (by assumption)) | (refine' ConsL.cons ?_ ?_) | (exact ConsL.pls rfl rfl) | (exact ConsL.pls (by assumption) (by assumption)) | (refine' Cons.agg ?_)); done))
set_option maxHeartbeats 4000000 in
theorem lawLifted_v (e : PE) (b : Int) (s : S) : VCalls Try.prog 10 [e.v, .int .i64 b] s (fun v _ => v = .bool true) := by
  have hh : Hold s s.next [] := .start _ _
  refine LCalls.body Try.func10 rfl (by kernel_rfl) ?_
  by_cases hb : 1048576 < wgt e.v
  · skip
    repeat' first
      | (refine kOps ?_; first | (refine LOps.nil ?_) | (refine LOps.ev tT_ok rfl ?_) | (refine kBox ?_; refine LOps.box rfl rfl rfl rfl ?_) | (refine kLoad ?_; first | (refine LOps.ans (AnsL.loadP tT_ok rfl rfl rfl rfl) ?_)) | (refine kCallN 39 ?_; first | (refine LOps.ans (AnsL.callP rfl rfl rfl (ok39) ((szPExpr_c e).no ?_ ?_ ?_ _)) ?_; (focus (omega)); (focus (omega)); (focus (omega)))))
      | (refine kWL ?_; first | (refine WL.seq ?_) | (refine WL.region (by kernel_rfl) ?_) | (refine WL.ret ?_) | (refine kCond ?_; first | (refine WL.condT rfl ?_)))
      | (refine lthen_n ?_)
      | (refine lthen_r ?_)
      | (refine LPost.r1 (r := .tmp 4) (.inl rfl) (Res1.tmp rfl) ?_)
    rfl
  have h1 : (1 : Int) ≤ nkT e.v 1 := nkT_le _ _
  have h3 := nk_PE e (by omega)
  have hS := fun t => specLifted_c e b (by omega) t
  have hI := fun t => implLifted_c e b (by omega) t
  have hwr : wgt (liftTop e b).v = wgt e.v := by
    unfold liftTop
    split
    · exact PE.lf_wgt b e 0
    · rfl
  have hEq := fun t => eqPExpr_c (liftTop e b) (by omega) t
  have h4 := nk_PE (liftTop e b) (by omega)
  generalize liftTop e b = r at hS hI hEq h4
  have h2 : (1 : Int) ≤ nkT r.v 1 := nkT_le _ _
  have hr := PE.plainv r
  obtain ⟨w, hw⟩ : ∃ w, wgt e.v = w := ⟨_, rfl⟩
  repeat' first
    | (refine kBox ?_ ; first | (refine LOps.boxH hh rfl rfl ?_ ; intro s n hh))
    | (refine kAlloc ?_ ; refine LOps.allocH tT_ok hh rfl rfl ?_ ; intro s n hh)
    | (refine kStore ?_ ; first | (refine LOps.storeHW tT_ok 0 hh rfl rfl rfl rfl rfl rfl rfl ?_ ; intro s hh))
    | (refine kCallN 41 ?_ ; refine LOps.lendH rfl rfl ok41 hh ?_ (fun t => toPExpr_c e (by omega) t) (PE.plainv e) ?_ ; (focus ((repeat' first | (exact RdH.nil) | (refine RdH.cons ?_ ?_) | (refine RdV.pl ?_; (focus (first | (exact PE.plainv _))))); done)) ; intro s n hh)
    | (refine kCallN 50 ?_ ; refine LOps.lendH rfl rfl ok50 hh ?_ (fun t => hS t) (hr) ?_ ; (focus ((repeat' first | (exact RdH.nil) | (refine RdH.cons ?_ ?_) | (refine RdV.th' ?_; (focus (((repeat' first | (exact .head _)); done)))) | (refine RdV.pl ?_; (focus (first | (rfl))))); done)) ; intro s n hh)
    | (refine kCallN 51 ?_ ; refine LOps.lendH rfl rfl ok51 hh ?_ (fun t => hI t) (hr) ?_ ; (focus ((repeat' first | (exact RdH.nil) | (refine RdH.cons ?_ ?_) | (refine RdV.th' ?_; (focus (((repeat' first | (exact .head _) | (refine .tail _ ?_)); done)))) | (refine RdV.pl ?_; (focus (first | (rfl))))); done)) ; intro s n hh)
    | (refine kCallN 44 ?_ ; first | (refine LOps.markH 3 rfl rfl ok44 hh rfl rfl (markPExpr_t e) rfl ?_ ?_ ?_ ; (focus (first | assumption | omega)) ; (focus (first | assumption | omega)) ; intro s hh))
    | (refine kCallN 44 ?_ ; first | (refine LOps.markH 1 rfl rfl ok44 hh rfl rfl (markPExpr_t r) rfl ?_ ?_ ?_ ; (focus (first | assumption | omega)) ; (focus (first | assumption | omega)) ; intro s hh))
    | (refine kOps ?_; first | (refine LOps.nil ?_) | (refine kG ?_; first | (refine LOps.gT rfl rfl rfl ?_) | (refine LOps.gD false rfl rfl rfl ?_ ?_; (focus (first | (simp only [decide_eq_true_eq, decide_eq_false_iff_not, Bool.not_eq_true', Bool.not_eq_false', Int.ofNat_lt, Int.ofNat_le, Int.ofNat_inj, not_true_eq_false, not_false_eq_true]; omega))))) | (refine LOps.ev tT_ok rfl ?_) | (refine kLoad ?_; first | (refine LOps.ans (AnsL.loadHW tT_ok 0 hh rfl rfl rfl rfl) ?_) | (refine LOps.ans (AnsL.loadHW tT_ok 2 hh rfl rfl rfl rfl) ?_) | (refine LOps.ans (AnsL.loadHW tT_ok 3 hh rfl rfl rfl rfl) ?_) | (refine LOps.ans (AnsL.loadHW tT_ok 4 hh rfl rfl rfl rfl) ?_) | (refine LOps.ans (AnsL.loadHW tT_ok 7 hh rfl rfl rfl rfl) ?_) | (refine LOps.ans (AnsL.loadH tT_ok 0 hh rfl rfl rfl rfl) ?_) | (refine LOps.ans (AnsL.loadH tT_ok 3 hh rfl rfl rfl rfl) ?_) | (refine LOps.ans (AnsL.loadH tT_ok 7 hh rfl rfl rfl rfl) ?_)) | (refine kCallN 39 ?_; first | (refine LOps.ans (AnsL.callP rfl rfl rfl (ok39) ((szPExpr_c e).okW hw ?_ ?_ _)) ?_; (focus (omega)); (focus (omega)))) | (refine kCallN 43 ?_; first | (refine LOps.ans (AnsL.callP rfl rfl rfl ok43 (VCalls.lookH rfl hh ?_ (fun t => hEq t))) ?_; (focus (((repeat' first | (exact RdH.nil) | (refine RdH.cons ?_ ?_) | (refine RdV.th' ?_; (focus (((repeat' first | (exact .head _) | (refine .tail _ ?_)); done))))); done))))) | (refine kCallN 52 ?_; first | (refine LOps.ans (AnsL.callP rfl rfl rfl ok52 (VCalls.lookH rfl hh ?_ (fun t => heldPExpr_t r 1 t (by decide) h4))) ?_; (focus (((repeat' first | (exact RdH.nil) | (refine RdH.cons ?_ ?_) | (refine RdV.mk' ?_; (focus (((repeat' first | (exact .head _) | (refine .tail _ ?_)); done)))) | (refine RdV.pl ?_; (focus (first | (rfl))))); done))))))
    | (refine kWL ?_; first | (refine WL.seq ?_) | (refine WL.region (by kernel_rfl) ?_) | (refine WL.drawn (id := 10) [0, 1, 2, 3, 4] [] [[], [], [1], [0, 1, 2], [0, 1, 2, 3]] (by kernel_rfl) (by kernel_rfl) ?_) | (refine WL.skip ?_) | (refine WL.ret ?_) | (refine kCond ?_; first | (refine WL.condF rfl ?_) | (refine WL.condF' rfl ?_ ?_; (focus (first | (simp only [decide_eq_true_eq, decide_eq_false_iff_not, Bool.not_eq_true', Bool.not_eq_false', Int.ofNat_lt, Int.ofNat_le, Int.ofNat_inj, not_true_eq_false, not_false_eq_true]; omega) | (simp <;> fail))))))
    | (refine kDr ?_; first | (refine LDr.nil ?_) | (refine LDr.fl rfl rfl (.ev tT_ok rfl) ?_) | (refine kDLoad rfl ?_; first | (refine LDr.fl rfl rfl (AnsL.loadHW tT_ok 2 hh rfl rfl rfl rfl) ?_) | (refine LDr.fl rfl rfl (AnsL.loadH tT_ok 7 hh rfl rfl rfl rfl) ?_)) | (refine kDCallN 41 rfl ?_; first | (refine LDr.fl rfl rfl (AnsL.callP rfl rfl rfl (ok41) ((toPExpr_c e (by omega)).pure (PE.plainv e) _)) ?_)) | (refine kDCallN 43 rfl ?_; first | (refine LDr.fl rfl rfl (AnsL.callP rfl rfl rfl ok43 (VCalls.lookH rfl hh ?_ (fun t => eqPExpr_c e (by omega) t))) ?_; (focus (((repeat' first | (exact RdH.nil) | (refine RdH.cons ?_ ?_) | (refine RdV.th' ?_; (focus (((repeat' first | (exact .head _) | (refine .tail _ ?_)); done)))) | (refine RdV.pl ?_; (focus (first | (exact PE.plainv _))))); done))))))
    | (refine lthen_n ?_)
    | (refine LPost.r1 (r := .tmp 4) (.inl rfl) (Res1.tmp rfl) ?_)
  rfl

end Go.Proofs.Ytehmlklfbllgcaa
