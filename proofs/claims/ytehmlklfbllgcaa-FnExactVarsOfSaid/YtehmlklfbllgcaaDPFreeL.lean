/-
  The law on free references of a plan's tree. Own work; no condition.
-/
import Derived.Test.YtehmlklfbllgcaaDRecM
import Derived.Test.YtehmlklfbllgcaaDPFree2
import Derived.Test.YtehmlklfbllgcaaDPHas
namespace Go.Proofs.Ytehmlklfbllgcaa
open Go
set_option linter.unusedSimpArgs false
set_option linter.unusedVariables false

theorem SzC.okW {P : Program} {g : FuncId} {d : V} (h : SzC P g d) {w : Nat} (e : wgt d = w) {left : Int} (h1 : left ≤ 1048576) (h2 : (w : Int) ≤ left) (s : S) : VCalls P g [d, .int .i64 left] s (fun v s' => v = .int .i64 (left - (w : Nat)) ∧ s' = s) := by
  subst e; exact h.ok h1 h2 s
theorem sc_sl {α : Type} (f : α → V) (l : List α) (h : ∀ x ∈ l, sc (f x) ≤ 12 * (1 + wgt (f x))) : scL (l.map f) ≤ 12 * wgt (.sl 0 (l.map f)) := by
  induction l with
  | nil => simp [scL]
  | cons x l ih =>
    have h1 := h x (by simp)
    have h2 := ih (fun y hy => h y (by simp [hy]))
    simp only [List.map_cons, scL, wgt, wgtL, List.length_cons, List.length_map] at *
    omega
theorem PL.sc_r (p : PL) (h : ∀ k ∈ p.parts, sc k.v + 4 ≤ 12 * (1 + wgt k.v)) : sc p.v ≤ 12 * (1 + wgt p.v) := by
  have a1 := sc_sl iV p.tables (fun x _ => by show 1 ≤ _; omega)
  have a2 := sc_sl PE.vS p.on (fun l hl => by
    have := sc_sl PE.toV l (fun x hx => by have := h x (PlanOf.mem_on hl hx); rw [PE.toV_eq]; omega)
    simp only [PE.vS, sc]; omega)
  have a3 := sc_sl PE.toV p.wher (fun x hx => by have := h x (PlanOf.mem_wher hx); rw [PE.toV_eq]; omega)
  have a4 := sc_sl PE.sv p.order (fun x hx => by
    have := h x.1 (PlanOf.mem_order hx)
    have e : sc (PE.sv x) = sc x.1.v + 1 := by simp only [PE.sv, PE.v, sc, scL]; omega
    rw [e, PE.wgt_eqs]; omega)
  have a5 := sc_sl PE.toV p.items (fun x hx => by have := h x (PlanOf.mem_items hx); rw [PE.toV_eq]; omega)
  have a6 := sc_sl sV p.names (fun x _ => by show 1 ≤ _; omega)
  have a7 := PL.wgt_eq p
  have e : sc p.v = scL (p.tables.map iV) + (scL (p.on.map PE.vS) + (scL (p.wher.map PE.toV) + (scL (p.order.map PE.sv) + (scL (p.items.map PE.toV) + (scL (p.names.map sV) + 2))))) := by simp only [PL.v, sc, scL]
  omega
theorem PE.sc_le (e : PE) : sc e.v + 4 ≤ 12 * (1 + wgt e.v) := by
  induction e using PE.ind with
  | h e ih1 ih2 =>
    have a1 := sc_sl PE.toV e.kids (fun x hx => by have := ih1 x hx; rw [PE.toV_eq]; omega)
    have a2 := sc_sl PE.planV e.sub (fun p hp => by rw [PE.planV_eq]; exact PL.sc_r p (ih2 p hp))
    have a3 := PE.wgt_eq e
    have e1 : sc e.v = 8 + (scL (e.kids.map PE.toV) + scL (e.sub.map PE.planV)) := by simp only [PE.v, sc, scL]; omega
    omega
theorem PL.sc_le (p : PL) : sc p.v ≤ 12 * (1 + wgt p.v) := PL.sc_r p fun k _ => PE.sc_le k
theorem nk_PE (e : PE) (h : wgt e.v ≤ 1048576) : nkT e.v 1 ≤ 4000000000000 := by
  have a1 := nkT_sc e.v 1
  have a2 := PE.sc_le e
  omega
theorem nk_PL (p : PL) (h : wgt p.v ≤ 1048576) : nkT p.v 1 ≤ 4000000000000 := by
  have a1 := nkT_sc p.v 1
  have a2 := PL.sc_le p
  omega
theorem nk_binds (l : List Bind) (h : l.length ≤ 10000000) : nkT (binds l) 1 ≤ 4000000000000 := by
  have a1 := nkT_sc (binds l) 1
  have a2 := scL_map (f := Bind.toV) 3 (fun x => by simp [Bind.toV, sc, scL]) l
  simp only [binds, sc] at a1 ⊢
  omega
theorem freeTop_len (e : PE) (u : Int) : (freeTop e u).length ≤ 1 + wgt e.v := by
  unfold freeTop
  split
  · exact PE.col_len freeAt freeAt_len e u
  · simp

theorem eqBindS_w (xs : List Bind) (h : xs.length ≤ 9000000000) (s : S) : VCalls Try.prog 34 [.sl 0 (xs.map Bind.toV), .sl 0 (xs.map Bind.toV)] s (fun v s' => v = .bool true ∧ s' = s) := by
  refine LCalls.pure Try.func34 rfl (by kernel_rfl) (by simp) ?_
  repeat' first
    | (refine kOps ?_; first | (refine LOps.nil ?_) | (refine LOps.ev tT_ok rfl ?_) | (refine kLen ?_; first | (refine LOps.ans (AnsL.lenM tT_ok rfl rfl rfl) ?_)))
    | (refine kWL ?_; first | (refine WL.seq ?_) | (refine WL.region (by kernel_rfl) ?_) | (refine WL.block ?_) | (refine WL.skip ?_) | (refine kCond ?_; first | (refine WL.condF' rfl ?_ ?_; (focus (first | (simp <;> fail))))))
    | (refine lthen_n ?_)
  refine WL.loopD (fun i : Nat => xs.length - i) (fun i => [(0, .sl 0 (xs.map Bind.toV)), (1, .sl 0 (xs.map Bind.toV)), (5, .int .i64 (i : Int))]) (fun i => [])
    (fun i => i ≤ xs.length) 0 0 (by simp) (fun _ => rfl) ⟨rfl, rfl, rfl, trivial⟩ rfl (fun i hi => ?_) (fun i hi => ?_)
  · simp [UnderK, UnderX, V.under, V.underL]
  rcases Nat.lt_or_ge i xs.length with hlt | hge
  · have hw : (xs[i]).wt ≤ 1048576 := Nat.zero_le _
    repeat' first
      | (refine kOps ?_; first | (refine LOps.nil ?_) | (refine LOps.ev tT_ok rfl ?_) | (refine kLen ?_; first | (refine LOps.ans (AnsL.lenM tT_ok rfl rfl rfl) ?_)) | (refine kBin ?_; first | (refine LOps.ans (AnsL.add rfl rfl ?_) ?_; (focus (constructor <;> omega)))))
      | (refine kWL ?_; first | (refine WL.seq ?_) | (refine WL.region (by kernel_rfl) ?_) | (refine WL.drawn (id := 6) [0, 1, 2, 3, 4, 5, 6, 7, 8, 9] [] [[], [], [0, 1], [0, 1, 2], [], [], [4, 5], [4, 5, 6], [0, 1, 2, 3, 4, 5, 6, 7], [0, 1, 2, 3, 4, 5, 6, 7, 8]] (by kernel_rfl) (by kernel_rfl) ?_) | (refine WL.block ?_) | (refine WL.skip ?_) | (refine kCond ?_; first | (refine WL.condF rfl ?_) | (refine WL.condT' rfl ?_ ?_; (focus (first | (simp only [decide_eq_true_eq, decide_eq_false_iff_not, Bool.not_eq_true', Bool.not_eq_false', Int.ofNat_lt, Int.ofNat_le, Int.ofNat_inj, not_true_eq_false, not_false_eq_true]; omega))))))
      | (refine kDr ?_; first | (refine LDr.nil ?_) | (refine LDr.fl rfl rfl (.ev tT_ok rfl) ?_) | (refine kDIdx rfl ?_; first | (refine LDr.fl rfl rfl (AnsL.idxA tT_ok rfl rfl rfl rfl rfl (by omega) rfl rfl) ?_)) | (refine kDCallN 103 rfl ?_; first | (refine LDr.fl rfl rfl (AnsL.callP rfl rfl rfl (ok103) (eqBind_v _ ?_ _)) ?_; (focus (omega)))))
      | (refine lthen_n ?_)
      | (refine lblock_n ?_)
    all_goals
      refine lbackD.of (i + 1) ?_ ?_ ?_ ?_
      · first | omega | (refine ⟨?_, ?_⟩; (focus (first | omega | (simp; omega))); (first | omega | (simp_all [] <;> fail) | (simp_all []; omega))) | (simp_all [] <;> fail) | (simp_all []; omega)
      · first | omega | (simp; omega) | simp_all
      · repeat' first
          | exact SubL.nil
          | (refine SubL.mk rfl ?_ ?_)
          | rfl
          | (simp [] <;> fail)
          | (simp []; omega)
      · first | rfl | (simp [] <;> fail) | (simp []; omega)
  · skip
    repeat' first
      | (refine kOps ?_; first | (refine LOps.nil ?_) | (refine LOps.ev tT_ok rfl ?_) | (refine kLen ?_; first | (refine LOps.ans (AnsL.lenM tT_ok rfl rfl rfl) ?_)))
      | (refine kWL ?_; first | (refine WL.seq ?_) | (refine WL.region (by kernel_rfl) ?_) | (refine WL.exit ?_) | (refine WL.ret ?_) | (refine kCond ?_; first | (refine WL.condF' rfl ?_ ?_; (focus (first | (simp only [decide_eq_true_eq, decide_eq_false_iff_not, Bool.not_eq_true', Bool.not_eq_false', Int.ofNat_lt, Int.ofNat_le, Int.ofNat_inj, not_true_eq_false, not_false_eq_true]; omega))))))
      | (refine lthen_n ?_)
      | (refine lthen_e ?_)
      | (refine lblock_e ?_)
      | (refine lbackD_e ?_)
      | (refine LPost.r1 (r := .tmp 4) (.inl rfl) (Res1.tmp rfl) ?_)
      | (refine PureR.mk ?_)
    rfl
set_option maxHeartbeats 4000000 in
theorem lawFreeIn_v (x : PE) (u : Int) (s : S) : VCalls Try.prog 8 [x.v, .int .i64 u] s (fun v _ => v = .bool true) := by
  have hh : Hold s s.next [] := .start _ _
  refine LCalls.body Try.func8 rfl (by kernel_rfl) ?_
  by_cases hb : 1048576 < wgt x.v
  · skip
    repeat' first
      | (refine kOps ?_; first | (refine LOps.nil ?_) | (refine LOps.ev tT_ok rfl ?_) | (refine kBox ?_; refine LOps.box rfl rfl rfl rfl ?_) | (refine kLoad ?_; first | (refine LOps.ans (AnsL.loadP tT_ok rfl rfl rfl rfl) ?_)) | (refine kCallN 39 ?_; first | (refine LOps.ans (AnsL.callP rfl rfl rfl (ok39) ((szPExpr_c x).no ?_ ?_ ?_ _)) ?_; (focus (omega)); (focus (omega)); (focus (omega)))))
      | (refine kWL ?_; first | (refine WL.seq ?_) | (refine WL.region (by kernel_rfl) ?_) | (refine WL.ret ?_) | (refine kCond ?_; first | (refine WL.condT rfl ?_)))
      | (refine lthen_n ?_)
      | (refine lthen_r ?_)
      | (refine LPost.r1 (r := .tmp 4) (.inl rfl) (Res1.tmp rfl) ?_)
    rfl
  have h1 : (1 : Int) ≤ nkT x.v 1 := nkT_le _ _
  have h3 := nk_PE x (by omega)
  have hl := freeTop_len x u
  have hS := fun t => specFreeIn_o x (by omega) u t
  have hI := fun t => implFreeIn_o x (by omega) u t
  generalize freeTop x u = r at hl hS hI
  have h2 : (1 : Int) ≤ nkT (binds r) 1 := nkT_le _ _
  have h4 := nk_binds r (by omega)
  have hr := plain_binds r
  simp only [binds] at hS hI h2 h4 hr
  obtain ⟨w, hw⟩ : ∃ w, wgt x.v = w := ⟨_, rfl⟩
  repeat' first
    | (refine kBox ?_ ; first | (refine LOps.boxH hh rfl rfl ?_ ; intro s n hh))
    | (refine kAlloc ?_ ; refine LOps.allocH tT_ok hh rfl rfl ?_ ; intro s n hh)
    | (refine kStore ?_ ; first | (refine LOps.storeHW tT_ok 0 hh rfl rfl rfl rfl rfl rfl rfl ?_ ; intro s hh))
    | (refine kCallN 41 ?_ ; refine LOps.lendH rfl rfl ok41 hh ?_ (fun t => toPExpr_c x (by omega) t) (PE.plainv x) ?_ ; (focus ((repeat' first | (exact RdH.nil) | (refine RdH.cons ?_ ?_) | (refine RdV.pl ?_; (focus (first | (exact PE.plainv _))))); done)) ; intro s n hh)
    | (refine kCallN 40 ?_ ; refine LOps.lendH rfl rfl ok40 hh ?_ (fun t => hS t) (hr) ?_ ; (focus ((repeat' first | (exact RdH.nil) | (refine RdH.cons ?_ ?_) | (refine RdV.th' ?_; (focus (((repeat' first | (exact .head _)); done)))) | (refine RdV.pl ?_; (focus (first | (rfl))))); done)) ; intro s n hh)
    | (refine kCallN 42 ?_ ; refine LOps.lendH rfl rfl ok42 hh ?_ (fun t => hI t) (hr) ?_ ; (focus ((repeat' first | (exact RdH.nil) | (refine RdH.cons ?_ ?_) | (refine RdV.th' ?_; (focus (((repeat' first | (exact .head _) | (refine .tail _ ?_)); done)))) | (refine RdV.pl ?_; (focus (first | (rfl))))); done)) ; intro s n hh)
    | (refine kCallN 44 ?_ ; first | (refine LOps.markH 2 rfl rfl ok44 hh rfl rfl (markPExpr_t x) rfl ?_ ?_ ?_ ; (focus (first | assumption | omega)) ; (focus (first | assumption | omega)) ; intro s hh))
    | (refine kCallN 37 ?_ ; first | (refine LOps.markH 0 rfl rfl ok37 hh rfl rfl (markBindS_t r) rfl ?_ ?_ ?_ ; (focus (first | assumption | omega)) ; (focus (first | assumption | omega)) ; intro s hh))
    | (refine kOps ?_; first | (refine LOps.nil ?_) | (refine kG ?_; first | (refine LOps.gT rfl rfl rfl ?_) | (refine LOps.gD false rfl rfl rfl ?_ ?_; (focus (first | (simp only [decide_eq_true_eq, decide_eq_false_iff_not, Bool.not_eq_true', Bool.not_eq_false', Int.ofNat_lt, Int.ofNat_le, Int.ofNat_inj, not_true_eq_false, not_false_eq_true]; omega))))) | (refine LOps.ev tT_ok rfl ?_) | (refine kLoad ?_; first | (refine LOps.ans (AnsL.loadHW tT_ok 0 hh rfl rfl rfl rfl) ?_) | (refine LOps.ans (AnsL.loadHW tT_ok 1 hh rfl rfl rfl rfl) ?_) | (refine LOps.ans (AnsL.loadH tT_ok 0 hh rfl rfl rfl rfl) ?_) | (refine LOps.ans (AnsL.loadH tT_ok 2 hh rfl rfl rfl rfl) ?_) | (refine LOps.ans (AnsL.loadH tT_ok 5 hh rfl rfl rfl rfl) ?_)) | (refine kCallN 34 ?_; first | (refine LOps.ans (AnsL.callP rfl rfl rfl ok34 (VCalls.lookH rfl hh ?_ (fun t => eqBindS_w r (by omega) t))) ?_; (focus (((repeat' first | (exact RdH.nil) | (refine RdH.cons ?_ ?_) | (refine RdV.th' ?_; (focus (((repeat' first | (exact .head _) | (refine .tail _ ?_)); done))))); done))))) | (refine kCallN 38 ?_; first | (refine LOps.ans (AnsL.callP rfl rfl rfl ok38 (VCalls.lookH rfl hh ?_ (fun t => heldBindS_t r 1 t (by decide) h4))) ?_; (focus (((repeat' first | (exact RdH.nil) | (refine RdH.cons ?_ ?_) | (refine RdV.mk' ?_; (focus (((repeat' first | (exact .head _) | (refine .tail _ ?_)); done)))) | (refine RdV.pl ?_; (focus (first | (rfl))))); done))))) | (refine kCallN 39 ?_; first | (refine LOps.ans (AnsL.callP rfl rfl rfl (ok39) ((szPExpr_c x).okW hw ?_ ?_ _)) ?_; (focus (omega)); (focus (omega)))))
    | (refine kWL ?_; first | (refine WL.seq ?_) | (refine WL.region (by kernel_rfl) ?_) | (refine WL.drawn (id := 10) [0, 1, 2, 3, 4] [] [[], [], [1], [0, 1, 2], [0, 1, 2, 3]] (by kernel_rfl) (by kernel_rfl) ?_) | (refine WL.skip ?_) | (refine WL.ret ?_) | (refine kCond ?_; first | (refine WL.condF rfl ?_) | (refine WL.condF' rfl ?_ ?_; (focus (first | (simp only [decide_eq_true_eq, decide_eq_false_iff_not, Bool.not_eq_true', Bool.not_eq_false', Int.ofNat_lt, Int.ofNat_le, Int.ofNat_inj, not_true_eq_false, not_false_eq_true]; omega) | (simp <;> fail))))))
    | (refine kDr ?_; first | (refine LDr.nil ?_) | (refine LDr.fl rfl rfl (.ev tT_ok rfl) ?_) | (refine kDLoad rfl ?_; first | (refine LDr.fl rfl rfl (AnsL.loadHW tT_ok 1 hh rfl rfl rfl rfl) ?_) | (refine LDr.fl rfl rfl (AnsL.loadH tT_ok 5 hh rfl rfl rfl rfl) ?_)) | (refine kDCallN 41 rfl ?_; first | (refine LDr.fl rfl rfl (AnsL.callP rfl rfl rfl (ok41) ((toPExpr_c x (by omega)).pure (PE.plainv x) _)) ?_)) | (refine kDCallN 43 rfl ?_; first | (refine LDr.fl rfl rfl (AnsL.callP rfl rfl rfl ok43 (VCalls.lookH rfl hh ?_ (fun t => eqPExpr_c x (by omega) t))) ?_; (focus (((repeat' first | (exact RdH.nil) | (refine RdH.cons ?_ ?_) | (refine RdV.th' ?_; (focus (((repeat' first | (exact .head _) | (refine .tail _ ?_)); done)))) | (refine RdV.pl ?_; (focus (first | (exact PE.plainv _))))); done))))))
    | (refine lthen_n ?_)
    | (refine LPost.r1 (r := .tmp 4) (.inl rfl) (Res1.tmp rfl) ?_)
  rfl

end Go.Proofs.Ytehmlklfbllgcaa
