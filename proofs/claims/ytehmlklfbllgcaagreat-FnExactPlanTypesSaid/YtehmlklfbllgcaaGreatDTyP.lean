/-
  The law of plans' types. Own work; no condition.
-/
import Derived.Test.YtehmlklfbllgcaaGreatDTyO
namespace Go.Proofs.YtehmlklfbllgcaaGreat
open Go
set_option linter.unusedSimpArgs false
set_option linter.unusedVariables false

theorem sc_sl {α : Type} (f : α → V) (l : List α) (h : ∀ x ∈ l, sc (f x) ≤ 12 * (1 + wgt (f x))) : scL (l.map f) ≤ 12 * wgt (.sl 0 (l.map f)) := by
  induction l with
  | nil => simp [scL]
  | cons x l ih =>
    have h1 := h x (by simp)
    have h2 := ih (fun y hy => h y (by simp [hy]))
    simp only [List.map_cons, scL, wgt, wgtL, List.length_cons, List.length_map] at *
    omega
theorem PL.sc_r (p : PL) (h : ∀ k ∈ p.parts, sc k.v + 4 ≤ 12 * (1 + wgt k.v)) : sc p.v ≤ 12 * (1 + wgt p.v) := by
  have a1 := sc_sl iV p.tables (fun x _ => by show 1 ≤ _; omega)
  have a2 := sc_sl PE.vS p.on (fun l hl => by
    have := sc_sl PE.toV l (fun x hx => by have := h x (PlanOf.mem_on hl hx); rw [PE.toV_eq]; omega)
    simp only [PE.vS, sc]; omega)
  have a3 := sc_sl PE.toV p.wher (fun x hx => by have := h x (PlanOf.mem_wher hx); rw [PE.toV_eq]; omega)
  have a4 := sc_sl PE.sv p.order (fun x hx => by
    have := h x.1 (PlanOf.mem_order hx)
    have e : sc (PE.sv x) = sc x.1.v + 1 := by simp only [PE.sv, PE.v, sc, scL]; omega
    rw [e, PE.wgt_eqs]; omega)
  have a5 := sc_sl PE.toV p.items (fun x hx => by have := h x (PlanOf.mem_items hx); rw [PE.toV_eq]; omega)
  have a6 := sc_sl sV p.names (fun x _ => by show 1 ≤ _; omega)
  have a7 := PL.wgt_eq p
  have e : sc p.v = scL (p.tables.map iV) + (scL (p.on.map PE.vS) + (scL (p.wher.map PE.toV) + (scL (p.order.map PE.sv) + (scL (p.items.map PE.toV) + (scL (p.names.map sV) + 2))))) := by simp only [PL.v, sc, scL]
  omega
theorem PE.sc_le (e : PE) : sc e.v + 4 ≤ 12 * (1 + wgt e.v) := by
  induction e using PE.ind with
  | h e ih1 ih2 =>
    have a1 := sc_sl PE.toV e.kids (fun x hx => by have := ih1 x hx; rw [PE.toV_eq]; omega)
    have a2 := sc_sl PE.planV e.sub (fun p hp => by rw [PE.planV_eq]; exact PL.sc_r p (ih2 p hp))
    have a3 := PE.wgt_eq e
    have e1 : sc e.v = 8 + (scL (e.kids.map PE.toV) + scL (e.sub.map PE.planV)) := by simp only [PE.v, sc, scL]; omega
    omega
theorem PL.sc_le (p : PL) : sc p.v ≤ 12 * (1 + wgt p.v) := PL.sc_r p fun k _ => PE.sc_le k

theorem sc_envV (env : List (List Int)) : sc (envV env) ≤ slW List.length env := by
  have h : scL (env.map ints) ≤ sumW List.length env := by
    induction env with
    | nil => simp [scL]
    | cons r env ih =>
      have := sc_ints r
      simp only [List.map_cons, scL, sumW, List.sum_cons] at *
      omega
  simp only [envV, sc, slW] at *
  omega
theorem specPlanTypes_o (c : Cat) (hc : c.wt ≤ 1048576) (p : PL) (hw : wgt p.v ≤ 1048576) : PlO Tryz.prog 22 c p := specPlanTypes_q c p hc hw fun k hk => specTypeIn_c c hc k (Nat.le_trans (PL.wgt_part2 hk) hw)
theorem implPlanTypes_o (c : Cat) (hc : c.wt ≤ 1048576) (p : PL) (hw : wgt p.v ≤ 1048576) : PlO Tryz.prog 23 c p := implPlanTypes_q c p hc hw fun k hk => implTypeIn_c c hc k (Nat.le_trans (PL.wgt_part2 hk) hw)
set_option maxHeartbeats 4000000 in
theorem lawPlanTypes_v (x : Cat) (env : List (List Int)) (e : PL) (s : S) : VCalls Tryz.prog 5 [x.toV, envV env, e.v] s (fun v _ => v = .bool true) := by
  have hx : x.toV.plain = true := plainL_cons (plain_TableS _) rfl
  have hpE : (envV env).plain = true := plain_IntSS env
  have hh : Hold s s.next [] := .start _ _
  obtain ⟨w, hw⟩ : ∃ w, wgt e.v = w := ⟨_, rfl⟩
  obtain ⟨u, hu⟩ : ∃ u, slW List.length env = u := ⟨_, rfl⟩
  have hIo := fun left h1 h2 t => szIntSS_ok env left h1 h2 t
  have hIn := fun left h0 h1 h2 t => szIntSS_no env left h0 h1 h2 t
  rw [hu] at hIo hIn
  refine LCalls.body Tryz.func5 rfl (by kernel_rfl) ?_
  by_cases hb : 1048576 < x.wt
  · skip
    repeat' first
      | (refine kOps ?_; first | (refine LOps.nil ?_) | (refine LOps.ev tT_ok rfl ?_) | (refine kBox ?_; refine LOps.box rfl rfl rfl rfl ?_) | (refine kLoad ?_; first | (refine LOps.ans (AnsL.loadP tT_ok rfl rfl rfl rfl) ?_)) | (refine kCallN 6 ?_; first | (refine LOps.ans (AnsL.callP rfl rfl rfl (ok6) (szCat_no _ _ ?_ ?_ ?_ _)) ?_; (focus (omega)); (focus (omega)); (focus (omega)))))
      | (refine kWL ?_; first | (refine WL.seq ?_) | (refine WL.region (by kernel_rfl) ?_) | (refine WL.ret ?_) | (refine kCond ?_; first | (refine WL.condT rfl ?_)))
      | (refine lthen_n ?_)
      | (refine lthen_r ?_)
      | (refine LPost.r1 (r := .tmp 6) (.inl rfl) (Res1.tmp rfl) ?_)
    rfl
  by_cases hb2 : (1048576 : Int) - x.wt < u
  · skip
    repeat' first
      | (refine kOps ?_; first | (refine LOps.nil ?_) | (refine LOps.ev tT_ok rfl ?_) | (refine kBox ?_; refine LOps.box rfl rfl rfl rfl ?_) | (refine kLoad ?_; first | (refine LOps.ans (AnsL.loadP tT_ok rfl rfl rfl rfl) ?_)) | (refine kCallN 6 ?_; first | (refine LOps.ans (AnsL.callP rfl rfl rfl (ok6) (szCat_ok _ _ ?_ ?_ _)) ?_; (focus (omega)); (focus (omega)))) | (refine kCallN 7 ?_; first | (refine LOps.ans (AnsL.callP rfl rfl rfl (ok7) (hIn _ ?_ ?_ ?_ _)) ?_; (focus (omega)); (focus (omega)); (focus (omega)))))
      | (refine kWL ?_; first | (refine WL.seq ?_) | (refine WL.region (by kernel_rfl) ?_) | (refine WL.skip ?_) | (refine WL.ret ?_) | (refine kCond ?_; first | (refine WL.condT rfl ?_) | (refine WL.condF' rfl ?_ ?_; (focus (first | (simp only [decide_eq_true_eq, decide_eq_false_iff_not, Bool.not_eq_true', Bool.not_eq_false', Int.ofNat_lt, Int.ofNat_le, Int.ofNat_inj, not_true_eq_false, not_false_eq_true]; omega))))))
      | (refine lthen_n ?_)
      | (refine lthen_r ?_)
      | (refine LPost.r1 (r := .tmp 6) (.inl rfl) (Res1.tmp rfl) ?_)
    rfl
  by_cases hb3 : (1048576 : Int) - x.wt - u < w
  · skip
    repeat' first
      | (refine kOps ?_; first | (refine LOps.nil ?_) | (refine LOps.ev tT_ok rfl ?_) | (refine kBox ?_; refine LOps.box rfl rfl rfl rfl ?_) | (refine kLoad ?_; first | (refine LOps.ans (AnsL.loadP tT_ok rfl rfl rfl rfl) ?_)) | (refine kCallN 17 ?_; first | (refine LOps.ans (AnsL.callP rfl rfl rfl (ok17) ((szPlan_c e).noW2 hw ?_ ?_ ?_ _)) ?_; (focus (omega)); (focus (omega)); (focus (omega)))) | (refine kCallN 6 ?_; first | (refine LOps.ans (AnsL.callP rfl rfl rfl (ok6) (szCat_ok _ _ ?_ ?_ _)) ?_; (focus (omega)); (focus (omega)))) | (refine kCallN 7 ?_; first | (refine LOps.ans (AnsL.callP rfl rfl rfl (ok7) (hIo _ ?_ ?_ _)) ?_; (focus (omega)); (focus (omega)))))
      | (refine kWL ?_; first | (refine WL.seq ?_) | (refine WL.region (by kernel_rfl) ?_) | (refine WL.skip ?_) | (refine WL.ret ?_) | (refine kCond ?_; first | (refine WL.condT rfl ?_) | (refine WL.condF' rfl ?_ ?_; (focus (first | (simp only [decide_eq_true_eq, decide_eq_false_iff_not, Bool.not_eq_true', Bool.not_eq_false', Int.ofNat_lt, Int.ofNat_le, Int.ofNat_inj, not_true_eq_false, not_false_eq_true]; omega))))))
      | (refine lthen_n ?_)
      | (refine lthen_r ?_)
      | (refine LPost.r1 (r := .tmp 6) (.inl rfl) (Res1.tmp rfl) ?_)
    rfl
  have hel := len_slW List.length env
  have hr : RowsOk env := fun r hr => by
    obtain ⟨i, hi, rfl⟩ := List.getElem_of_mem hr
    have := mem_slW (f := List.length) hi
    omega
  have hTp : ∀ t, VCalls Tryz.prog 11 [envV env] t (fun v t' => v = envV env ∧ t' = t) := fun t => VCalls.pureOf (plainL_cons (plain_IntSS env) rfl) (plain_IntSS env) (fun t => toIntSS_o env (by omega) t) t
  have hEq := fun t => eqIntSS_w env (by omega) t
  have hS := fun t => specPlanTypes_o x (by omega) e (by omega) env (by omega) hr t
  have hI := fun t => implPlanTypes_o x (by omega) e (by omega) env (by omega) hr t
  have b1 := nkT_sc x.toV 1
  have b2 := nkT_sc (envV env) (nkT x.toV 1)
  have b3 := nkT_sc e.v (nkT (envV env) (nkT x.toV 1))
  have b4 := sc_tabs x.tables (by simp only [Cat.wt] at hb; omega)
  have b5 := sc_envV env
  have b6 := PL.sc_le e
  have b7 := len_slW Tab.wt x.tables
  have b8 : sc x.toV ≤ 2200000000000 := by
    simp only [Cat.wt] at hb
    simp only [Cat.toV, sc, scL] at *
    omega
  have h1 : (1 : Int) ≤ nkT x.toV 1 := nkT_le _ _
  have h1' : (1 : Int) ≤ nkT (envV env) (nkT x.toV 1) := Int.le_trans h1 (nkT_le _ _)
  have h1'' : (1 : Int) ≤ nkT e.v (nkT (envV env) (nkT x.toV 1)) := Int.le_trans h1' (nkT_le _ _)
  have h3 : nkT x.toV 1 ≤ 4000000000000 := by omega
  have h3' : nkT (envV env) (nkT x.toV 1) ≤ 4000000000000 := by omega
  have h3'' : nkT e.v (nkT (envV env) (nkT x.toV 1)) ≤ 4000000000000 := by omega
  have hln : ∀ l, PE.tyP x env e = some l → l.length ≤ 1048576 := fun l h => by
    have q1 := tyP_len h
    have q2 := PL.parts_len e
    have q3 : e.items.length ≤ e.parts.length := by simp only [PlanOf.parts, List.length_append]; omega
    omega
  obtain ⟨ls, b, hty, hl⟩ : ∃ ls b, typesV (PE.tyP x env e) = .tup [ints ls, .bool b] ∧ ls.length ≤ 1048576 := by
    cases h : PE.tyP x env e with
    | none => exact ⟨[], false, rfl, by simp⟩
    | some l => exact ⟨l, true, rfl, hln l h⟩
  rw [hty] at hS hI
  have h2 : (1 : Int) ≤ nkT (ints ls) 1 := nkT_le _ _
  have h4 := nk_ints ls (by omega)
  have hp := plain_IntS ls
  simp only [envV] at h1' h1'' h3' h3''
  repeat' first
    | (refine kBox ?_ ; first | (refine LOps.boxH hh rfl rfl ?_ ; intro s n hh))
    | (refine kAlloc ?_ ; refine LOps.allocH tT_ok hh rfl rfl ?_ ; intro s n hh)
    | (refine kStore ?_ ; first | (refine LOps.storeHW tT_ok 0 hh rfl rfl rfl rfl rfl rfl rfl ?_ ; intro s hh))
    | (refine kCallN 10 ?_ ; refine LOps.lendH rfl rfl ok10 hh ?_ (fun t => toCat_o x (by omega) t) (hx) ?_ ; (focus ((repeat' first | (exact RdH.nil) | (refine RdH.cons ?_ ?_) | (refine RdV.pl ?_; (focus (first | (assumption))))); done)) ; intro s n hh)
    | (refine kCallN 11 ?_ ; refine LOps.lendH rfl rfl ok11 hh ?_ (fun t => toIntSS_o env (by omega) t) (hpE) ?_ ; (focus ((repeat' first | (exact RdH.nil) | (refine RdH.cons ?_ ?_) | (refine RdV.pl ?_; (focus (first | (assumption))))); done)) ; intro s n hh)
    | (refine kCallN 19 ?_ ; refine LOps.lendH rfl rfl ok19 hh ?_ (fun t => toPlan_c e (by omega) t) (PL.plain e) ?_ ; (focus ((repeat' first | (exact RdH.nil) | (refine RdH.cons ?_ ?_) | (refine RdV.pl ?_; (focus (first | (exact PL.plain _))))); done)) ; intro s n hh)
    | (refine kCallN 22 ?_ ; refine LOps.lendHT rfl rfl ok22 hh ?_ (fun t => hS t) (hp) rfl ?_ ; (focus ((repeat' first | (exact RdH.nil) | (refine RdH.cons ?_ ?_) | (refine RdV.th' ?_; (focus (((repeat' first | (exact .head _) | (refine .tail _ ?_)); done))))); done)) ; intro s n hh)
    | (refine kCallN 23 ?_ ; refine LOps.lendHT rfl rfl ok23 hh ?_ (fun t => hI t) (hp) rfl ?_ ; (focus ((repeat' first | (exact RdH.nil) | (refine RdH.cons ?_ ?_) | (refine RdV.th' ?_; (focus (((repeat' first | (exact .head _) | (refine .tail _ ?_)); done))))); done)) ; intro s n hh)
    | (refine kCallN 25 ?_ ; first | (refine LOps.markH 8 rfl rfl ok25 hh rfl rfl (markCatalog_t x) rfl ?_ ?_ ?_ ; (focus (first | assumption | omega)) ; (focus (first | assumption | omega)) ; intro s hh))
    | (refine kCallN 26 ?_ ; first | (refine LOps.markH 6 rfl rfl ok26 hh rfl rfl (markIntSS_t env) rfl ?_ ?_ ?_ ; (focus (first | assumption | omega)) ; (focus (first | assumption | omega)) ; intro s hh))
    | (refine kCallN 27 ?_ ; first | (refine LOps.markH 5 rfl rfl ok27 hh rfl rfl (markPlan_t e) rfl ?_ ?_ ?_ ; (focus (first | assumption | omega)) ; (focus (first | assumption | omega)) ; intro s hh))
    | (refine kCallN 28 ?_ ; first | (refine LOps.markH 3 rfl rfl ok28 hh rfl rfl (markIntS_t ls) rfl ?_ ?_ ?_ ; (focus (first | assumption | omega)) ; (focus (first | assumption | omega)) ; intro s hh))
    | (refine kOps ?_; first | (refine LOps.nil ?_) | (refine kG ?_; first | (refine LOps.gT rfl rfl rfl ?_) | (refine LOps.gD false rfl rfl rfl ?_ ?_; (focus (first | (simp only [decide_eq_true_eq, decide_eq_false_iff_not, Bool.not_eq_true', Bool.not_eq_false', Int.ofNat_lt, Int.ofNat_le, Int.ofNat_inj, not_true_eq_false, not_false_eq_true]; omega))))) | (refine LOps.ev tT_ok rfl ?_) | (refine kLoad ?_; first | (refine LOps.ans (AnsL.loadHW tT_ok 0 hh rfl rfl rfl rfl) ?_) | (refine LOps.ans (AnsL.loadHW tT_ok 3 hh rfl rfl rfl rfl) ?_) | (refine LOps.ans (AnsL.loadHW tT_ok 4 hh rfl rfl rfl rfl) ?_) | (refine LOps.ans (AnsL.loadHW tT_ok 7 hh rfl rfl rfl rfl) ?_) | (refine LOps.ans (AnsL.loadH tT_ok 0 hh rfl rfl rfl rfl) ?_) | (refine LOps.ans (AnsL.loadH tT_ok 1 hh rfl rfl rfl rfl) ?_) | (refine LOps.ans (AnsL.loadH tT_ok 5 hh rfl rfl rfl rfl) ?_) | (refine LOps.ans (AnsL.loadH tT_ok 7 hh rfl rfl rfl rfl) ?_)) | (refine kCallN 14 ?_; first | (refine LOps.ans (AnsL.callP rfl rfl rfl ok14 (VCalls.lookH rfl hh ?_ (fun t => eqCat_v x (by omega) t))) ?_; (focus (((repeat' first | (exact RdH.nil) | (refine RdH.cons ?_ ?_) | (refine RdV.th' ?_; (focus (((repeat' first | (exact .head _) | (refine .tail _ ?_)); done))))); done))))) | (refine kCallN 15 ?_; first | (refine LOps.ans (AnsL.callP rfl rfl rfl ok15 (VCalls.lookH rfl hh ?_ (fun t => hEq t))) ?_; (focus (((repeat' first | (exact RdH.nil) | (refine RdH.cons ?_ ?_) | (refine RdV.th' ?_; (focus (((repeat' first | (exact .head _) | (refine .tail _ ?_)); done))))); done))))) | (refine kCallN 17 ?_; first | (refine LOps.ans (AnsL.callP rfl rfl rfl (ok17) ((szPlan_c e).okW2 hw ?_ ?_ _)) ?_; (focus (omega)); (focus (omega)))) | (refine kCallN 21 ?_; first | (refine LOps.ans (AnsL.callP rfl rfl rfl ok21 (VCalls.lookH rfl hh ?_ (fun t => eqPlan_c e (by omega) t))) ?_; (focus (((repeat' first | (exact RdH.nil) | (refine RdH.cons ?_ ?_) | (refine RdV.th' ?_; (focus (((repeat' first | (exact .head _) | (refine .tail _ ?_)); done))))); done))))) | (refine kCallN 24 ?_; first | (refine LOps.ans (AnsL.callP rfl rfl rfl ok24 (VCalls.lookH rfl hh ?_ (fun t => eqIntS_v ls (by omega) t))) ?_; (focus (((repeat' first | (exact RdH.nil) | (refine RdH.cons ?_ ?_) | (refine RdV.th' ?_; (focus (((repeat' first | (exact .head _) | (refine .tail _ ?_)); done))))); done))))) | (refine kCallN 29 ?_; first | (refine LOps.ans (AnsL.callP rfl rfl rfl ok29 (VCalls.lookH rfl hh ?_ (fun t => heldIntS_t ls 1 t (by decide) h4))) ?_; (focus (((repeat' first | (exact RdH.nil) | (refine RdH.cons ?_ ?_) | (refine RdV.mk' ?_; (focus (((repeat' first | (exact .head _) | (refine .tail _ ?_)); done)))) | (refine RdV.pl ?_; (focus (first | (rfl))))); done))))) | (refine kCallN 6 ?_; first | (refine LOps.ans (AnsL.callP rfl rfl rfl (ok6) (szCat_ok _ _ ?_ ?_ _)) ?_; (focus (omega)); (focus (omega)))) | (refine kCallN 7 ?_; first | (refine LOps.ans (AnsL.callP rfl rfl rfl (ok7) (hIo _ ?_ ?_ _)) ?_; (focus (omega)); (focus (omega)))))
    | (refine kWL ?_; first | (refine WL.seq ?_) | (refine WL.region (by kernel_rfl) ?_) | (refine WL.drawn (id := 11) [0, 2, 4, 1, 3, 5, 6, 7, 8, 9, 10, 11] [1, 3, 5, 6] [[], [0], [], [0, 1, 2], [], [0, 1, 2, 3, 4], [0, 1, 2, 3, 4, 5], [0, 1, 2, 3, 4, 5, 6], [0, 1, 2, 3, 4, 5, 6, 7], [0, 1, 2, 3, 4, 5, 6, 7], [0, 1, 2, 3, 4, 5, 6, 7, 8], [0, 1, 2, 3, 4, 5, 6, 7, 8, 9, 10]] (by kernel_rfl) (by kernel_rfl) ?_) | (refine WL.drawn (id := 18) [0, 1, 2, 3, 4] [2, 3] [[], [], [1], [0, 1, 2], [0, 1, 2, 3]] (by kernel_rfl) (by kernel_rfl) ?_) | (refine WL.drawn (id := 22) [0, 1, 2, 3, 4] [2, 3] [[], [], [1], [0, 1, 2], [0, 1, 2, 3]] (by kernel_rfl) (by kernel_rfl) ?_) | (refine WL.drawn (id := 38) [0, 2, 4, 1, 3, 5, 6, 7, 8, 9, 10, 11] [1, 3, 5, 6] [[], [0], [], [0, 1, 2], [], [0, 1, 2, 3, 4], [0, 1, 2, 3, 4, 5], [0, 1, 2, 3, 4, 5, 6], [0, 1, 2, 3, 4, 5, 6, 7], [0, 1, 2, 3, 4, 5, 6, 7], [0, 1, 2, 3, 4, 5, 6, 7, 8], [0, 1, 2, 3, 4, 5, 6, 7, 8, 9, 10]] (by kernel_rfl) (by kernel_rfl) ?_) | (refine WL.skip ?_) | (refine WL.ret ?_) | (refine kCond ?_; first | (refine WL.condF rfl ?_) | (refine WL.condF' rfl ?_ ?_; (focus (first | (simp only [decide_eq_true_eq, decide_eq_false_iff_not, Bool.not_eq_true', Bool.not_eq_false', Int.ofNat_lt, Int.ofNat_le, Int.ofNat_inj, not_true_eq_false, not_false_eq_true]; omega) | (simp <;> fail))))))
    | (refine kDr ?_; first | (refine LDr.nil ?_) | (refine LDr.fl rfl rfl (.ev tT_ok rfl) ?_) | (refine kDLoad rfl ?_; first | (refine LDr.fl rfl rfl (AnsL.loadHW tT_ok 3 hh rfl rfl rfl rfl) ?_) | (refine LDr.fl rfl rfl (AnsL.loadHW tT_ok 4 hh rfl rfl rfl rfl) ?_) | (refine LDr.fl rfl rfl (AnsL.loadH tT_ok 0 hh rfl rfl rfl rfl) ?_) | (refine LDr.fl rfl rfl (AnsL.loadH tT_ok 1 hh rfl rfl rfl rfl) ?_) | (refine LDr.fl rfl rfl (AnsL.loadH tT_ok 11 hh rfl rfl rfl rfl) ?_) | (refine LDr.fl rfl rfl (AnsL.loadH tT_ok 12 hh rfl rfl rfl rfl) ?_) | (refine LDr.fl rfl rfl (AnsL.loadH tT_ok 13 hh rfl rfl rfl rfl) ?_) | (refine LDr.fl rfl rfl (AnsL.loadH tT_ok 14 hh rfl rfl rfl rfl) ?_)) | (refine LDr.eff rfl rfl rfl ?_))
    | (refine lthen_n ?_)
    | (refine LPost.r1 (r := .tmp 6) (.inl rfl) (Res1.tmp rfl) ?_)
    | (refine And.intro ?_ ?_)
    | (exact StsL.nil)
    | (refine StsL.cons ?_ ?_)
    | (refine StL.fl rfl rfl (.ev tT_ok rfl))
    | (refine StL.fl rfl rfl (AnsL.loadHW tT_ok 4 hh rfl rfl rfl rfl))
    | (refine StL.fl rfl rfl (AnsL.loadHW tT_ok 5 hh rfl rfl rfl rfl))
    | (refine StL.fl rfl rfl (AnsL.loadH tT_ok 1 hh rfl rfl rfl rfl))
    | (refine StL.fl rfl rfl (AnsL.loadH tT_ok 2 hh rfl rfl rfl rfl))
    | (refine StL.fl rfl rfl (AnsL.loadH tT_ok 14 hh rfl rfl rfl rfl))
    | (refine StL.fl rfl rfl (AnsL.loadH tT_ok 15 hh rfl rfl rfl rfl))
  rfl

end Go.Proofs.YtehmlklfbllgcaaGreat
