/-
  Bounds on the numbers of marks of queries' trees, and the law of ScopeOf. Own work; no condition.
-/
import Derived.Test.YtoagpmhdgllchaaDScR
import Derived.Test.YtoagpmhdgllchaaDRecE
import Derived.Test.YtoagpmhdgllchaaDRecME
import Derived.Test.YtoagpmhdgllchaaDEHas
import Derived.Test.YtoagpmhdgllchaaDOwn
namespace Go.Proofs.Ytoagpmhdgllchaa
open Go
set_option linter.unusedSimpArgs false
set_option linter.unusedVariables false

theorem SzC.okE {P : Program} {g : FuncId} {d : V} (h : SzC P g d) {w : Nat} (e : wgt d = w) {left : Int} (h1 : left ≤ 1048576) (h2 : (w : Int) ≤ left) (s : S) : VCalls P g [d, .int .i64 left] s (fun v s' => v = .int .i64 (left - (w : Nat)) ∧ s' = s) := by
  subst e; exact h.ok h1 h2 s
theorem SzC.noE {P : Program} {g : FuncId} {d : V} (h : SzC P g d) {w : Nat} (e : wgt d = w) {left : Int} (h0 : 0 ≤ left) (h1 : left ≤ 1048576) (h2 : left < (w : Int)) (s : S) : VCalls P g [d, .int .i64 left] s (fun v s' => v = .int .i64 (-1) ∧ s' = s) := by
  subst e; exact h.no h0 h1 h2 s
theorem sc_slE {α : Type} (f : α → V) (l : List α) (h : ∀ x ∈ l, sc (f x) ≤ 12 * (1 + wgt (f x))) : scL (l.map f) ≤ 12 * wgt (.sl 0 (l.map f)) := by
  induction l with
  | nil => simp [scL]
  | cons x l ih =>
    have h1 := h x (by simp)
    have h2 := ih (fun y hy => h y (by simp [hy]))
    simp only [List.map_cons, scL, wgt, wgtL, List.length_cons, List.length_map] at *
    omega
theorem ESrc.sc_r (x : ESrc) (h : ∀ k ∈ x.on, sc k.v + 4 ≤ 12 * (1 + wgt k.v)) : sc (ESrc.v x) ≤ 12 * (1 + wgt (ESrc.v x)) := by
  have a1 := sc_slE EE.toV x.on (fun k hk => by have := h k hk; rw [EE.toV_eq]; omega)
  have a2 := ESrc.wgt_eq x
  have e : sc (ESrc.v x) = 2 + scL (x.on.map EE.toV) := by simp only [ESrc.v, sc, scL]; omega
  omega
theorem EQ.sc_r (p : EQ) (h : ∀ k ∈ p.parts, sc k.v + 4 ≤ 12 * (1 + wgt k.v)) : sc p.v ≤ 12 * (1 + wgt p.v) := by
  have a1 := sc_slE EItem.v p.items (fun x hx => by
    have := h x.e (QueryOf.mem_items hx)
    have e : sc (EItem.v x) = sc x.e.v + 3 := by simp only [EItem.v, EE.v, sc, scL]; omega
    rw [e, EItem.wgt_eq]; omega)
  have a2 := sc_slE ESrc.v p.src (fun x hx => ESrc.sc_r x fun k hk => h k (QueryOf.mem_src hx hk))
  have a3 := sc_slE EE.toV p.wher (fun x hx => by have := h x (QueryOf.mem_wher hx); rw [EE.toV_eq]; omega)
  have a4 := sc_slE EE.sv p.order (fun x hx => by
    have := h x.1 (QueryOf.mem_order hx)
    have e : sc (EE.sv x) = sc x.1.v + 1 := by simp only [EE.sv, EE.v, sc, scL]; omega
    rw [e, EE.wgt_eqs]; omega)
  have a7 := EQ.wgt_eq p
  have e : sc p.v = scL (p.items.map EItem.v) + (scL (p.src.map ESrc.v) + (scL (p.wher.map EE.toV) + (scL (p.order.map EE.sv) + 2))) := by simp only [EQ.v, sc, scL]; omega
  omega
theorem EE.sc_le (e : EE) : sc e.v + 4 ≤ 12 * (1 + wgt e.v) := by
  induction e using EE.ind with
  | h e ih1 ih2 =>
    have a1 := sc_slE EE.toV e.kids (fun x hx => by have := ih1 x hx; rw [EE.toV_eq]; omega)
    have a2 := sc_slE EE.queryV e.sub (fun p hp => by rw [EE.queryV_eq]; exact EQ.sc_r p (ih2 p hp))
    have a3 := EE.wgt_eq e
    have e1 : sc e.v = 8 + (scL (e.kids.map EE.toV) + scL (e.sub.map EE.queryV)) := by simp only [EE.v, sc, scL]; omega
    omega
theorem srcs_sc (l : List ESrc) : scL (l.map ESrc.v) ≤ 12 * wgt (.sl 0 (l.map ESrc.v)) := sc_slE ESrc.v l fun x _ => ESrc.sc_r x fun k _ => EE.sc_le k
theorem sc_tabs (l : List Tab) (h : slW Tab.wt l ≤ 1048576) : scL (l.map Tab.toV) ≤ 2097153 * l.length := by
  induction l with
  | nil => simp [scL]
  | cons t l ih =>
    have e : slW Tab.wt (t :: l) = 1 + t.wt + slW Tab.wt l := by simp only [slW, sumW, List.length_cons, List.map_cons, List.sum_cons]; omega
    rw [e] at h
    have h1 := ih (by omega)
    have h2 := scL_map (f := Col.toV) 2 (fun _ => Nat.le_refl 2) t.cols
    have h3 := len_slW Col.wt t.cols
    simp only [Tab.wt] at h
    simp only [List.map_cons, scL, Tab.toV, sc, List.length_cons] at *
    omega
theorem eqNamed_w (x : Named) (s : S) : VCalls Try.prog 64 [x.toV, x.toV] s (fun v s' => v = .bool true ∧ s' = s) := by
  refine LCalls.pure Try.func64 rfl (by kernel_rfl) (by simp) ?_
  repeat' first
    | (refine kOps ?_; first | (refine LOps.nil ?_) | (refine LOps.ev tT_ok rfl ?_) | (refine kBox ?_; refine LOps.box rfl rfl rfl rfl ?_) | (refine kLoad ?_; first | (refine LOps.ans (AnsL.loadP tT_ok rfl rfl rfl rfl) ?_)))
    | (refine kWL ?_; first | (refine WL.seq ?_) | (refine WL.region (by kernel_rfl) ?_) | (refine WL.skip ?_) | (refine WL.ret ?_) | (refine kCond ?_; first | (refine WL.condF' rfl ?_ ?_; (focus (first | (simp <;> fail))))))
    | (refine lthen_n ?_)
    | (refine LPost.r1 (r := .tmp 4) (.inl rfl) (Res1.tmp rfl) ?_)
    | (refine PureR.mk ?_)
  rfl
theorem eqNamedS_w (xs : List Named) (h : xs.length ≤ 4398046511104) (s : S) : VCalls Try.prog 44 [.sl 0 (xs.map Named.toV), .sl 0 (xs.map Named.toV)] s (fun v s' => v = .bool true ∧ s' = s) := by
  refine LCalls.pure Try.func44 rfl (by kernel_rfl) (by simp) ?_
  repeat' first
    | (refine kOps ?_; first | (refine LOps.nil ?_) | (refine LOps.ev tT_ok rfl ?_) | (refine kLen ?_; first | (refine LOps.ans (AnsL.lenM tT_ok rfl rfl rfl) ?_)))
    | (refine kWL ?_; first | (refine WL.seq ?_) | (refine WL.region (by kernel_rfl) ?_) | (refine WL.block ?_) | (refine WL.skip ?_) | (refine kCond ?_; first | (refine WL.condF' rfl ?_ ?_; (focus (first | (simp <;> fail))))))
    | (refine lthen_n ?_)
  refine WL.loopD (fun i : Nat => xs.length - i) (fun i => [(0, .sl 0 (xs.map Named.toV)), (1, .sl 0 (xs.map Named.toV)), (5, .int .i64 (i : Int))]) (fun i => [])
    (fun i => i ≤ xs.length) 0 0 (by simp) (fun _ => rfl) ⟨rfl, rfl, rfl, trivial⟩ rfl (fun i hi => ?_) (fun i hi => ?_)
  · simp [UnderK, UnderX, V.under, V.underL]
  rcases Nat.lt_or_ge i xs.length with hlt | hge
  · have hga : (xs.map Named.toV)[i]? = some xs[i].toV := by simp [hlt]
    generalize xs[i] = y at hga
    repeat' first
      | (refine kOps ?_; first | (refine LOps.nil ?_) | (refine LOps.ev tT_ok rfl ?_) | (refine kLen ?_; first | (refine LOps.ans (AnsL.lenM tT_ok rfl rfl rfl) ?_)) | (refine kBin ?_; first | (refine LOps.ans (AnsL.add rfl rfl ?_) ?_; (focus (constructor <;> omega)))))
      | (refine kWL ?_; first | (refine WL.seq ?_) | (refine WL.region (by kernel_rfl) ?_) | (refine WL.drawn (id := 6) [0, 1, 2, 3, 4, 5, 6, 7, 8, 9] [] [[], [], [0, 1], [0, 1, 2], [], [], [4, 5], [4, 5, 6], [0, 1, 2, 3, 4, 5, 6, 7], [0, 1, 2, 3, 4, 5, 6, 7, 8]] (by kernel_rfl) (by kernel_rfl) ?_) | (refine WL.block ?_) | (refine WL.skip ?_) | (refine kCond ?_; first | (refine WL.condF rfl ?_) | (refine WL.condT' rfl ?_ ?_; (focus (first | (simp only [decide_eq_true_eq, decide_eq_false_iff_not, Bool.not_eq_true', Bool.not_eq_false', Int.ofNat_lt, Int.ofNat_le, Int.ofNat_inj, not_true_eq_false, not_false_eq_true]; omega))))))
      | (refine kDr ?_; first | (refine LDr.nil ?_) | (refine LDr.fl rfl rfl (.ev tT_ok rfl) ?_) | (refine kDIdx rfl ?_; first | (refine LDr.fl rfl rfl (AnsL.idx tT_ok rfl rfl rfl rfl rfl hga rfl rfl) ?_)) | (refine kDCallN 64 rfl ?_; first | (refine LDr.fl rfl rfl (AnsL.callP rfl rfl rfl (ok64) (eqNamed_w y _)) ?_)))
      | (refine lthen_n ?_)
      | (refine lblock_n ?_)
    all_goals
      refine lbackD.of (i + 1) ?_ ?_ ?_ ?_
      · first | omega | (refine ⟨?_, ?_⟩; (focus (first | omega | (simp; omega))); (first | omega | (simp_all [] <;> fail) | (simp_all []; omega))) | (simp_all [] <;> fail) | (simp_all []; omega)
      · first | omega | (simp; omega) | simp_all
      · repeat' first
          | exact SubL.nil
          | (refine SubL.mk rfl ?_ ?_)
          | rfl
          | (simp [] <;> fail)
          | (simp []; omega)
      · first | rfl | (simp [] <;> fail) | (simp []; omega)
  · skip
    repeat' first
      | (refine kOps ?_; first | (refine LOps.nil ?_) | (refine LOps.ev tT_ok rfl ?_) | (refine kLen ?_; first | (refine LOps.ans (AnsL.lenM tT_ok rfl rfl rfl) ?_)))
      | (refine kWL ?_; first | (refine WL.seq ?_) | (refine WL.region (by kernel_rfl) ?_) | (refine WL.exit ?_) | (refine WL.ret ?_) | (refine kCond ?_; first | (refine WL.condF' rfl ?_ ?_; (focus (first | (simp only [decide_eq_true_eq, decide_eq_false_iff_not, Bool.not_eq_true', Bool.not_eq_false', Int.ofNat_lt, Int.ofNat_le, Int.ofNat_inj, not_true_eq_false, not_false_eq_true]; omega))))))
      | (refine lthen_n ?_)
      | (refine lthen_e ?_)
      | (refine lblock_e ?_)
      | (refine lbackD_e ?_)
      | (refine LPost.r1 (r := .tmp 4) (.inl rfl) (Res1.tmp rfl) ?_)
      | (refine PureR.mk ?_)
    rfl
theorem eqScope_w (x : Scope) (h : x.names.length ≤ 4398046511104) (s : S) : VCalls Try.prog 22 [x.toV, x.toV] s (fun v s' => v = .bool true ∧ s' = s) := by
  refine LCalls.pure Try.func22 rfl (by kernel_rfl) (by simp) ?_
  repeat' first
    | (refine kOps ?_; first | (refine LOps.nil ?_) | (refine LOps.ev tT_ok rfl ?_) | (refine kBox ?_; refine LOps.box rfl rfl rfl rfl ?_) | (refine kLoad ?_; first | (refine LOps.ans (AnsL.loadP tT_ok rfl rfl rfl rfl) ?_)) | (refine kCallN 44 ?_; first | (refine LOps.ans (AnsL.callP rfl rfl rfl (ok44) (eqNamedS_w x.names h _)) ?_)))
    | (refine kWL ?_; first | (refine WL.seq ?_) | (refine WL.region (by kernel_rfl) ?_) | (refine WL.skip ?_) | (refine WL.ret ?_) | (refine kCond ?_; first | (refine WL.condF rfl ?_)))
    | (refine lthen_n ?_)
    | (refine LPost.r1 (r := .tmp 4) (.inl rfl) (Res1.tmp rfl) ?_)
    | (refine PureR.mk ?_)
  rfl

set_option maxHeartbeats 4000000 in
theorem lawScopeOf_v (x : Cat) (l : List ESrc) (s : S) : VCalls Try.prog 5 [x.toV, .sl 0 (l.map ESrc.v)] s (fun v _ => v = .bool true) := by
  have hx : x.toV.plain = true := plainL_cons (plain_TableS _) rfl
  have hh : Hold s s.next [] := .start _ _
  refine LCalls.body Try.func5 rfl (by kernel_rfl) ?_
  by_cases hb : 1048576 < x.wt
  · skip
    repeat' first
      | (refine kOps ?_; first | (refine LOps.nil ?_) | (refine LOps.ev tT_ok rfl ?_) | (refine kBox ?_; refine LOps.box rfl rfl rfl rfl ?_) | (refine kLoad ?_; first | (refine LOps.ans (AnsL.loadP tT_ok rfl rfl rfl rfl) ?_)) | (refine kCallN 18 ?_; first | (refine LOps.ans (AnsL.callP rfl rfl rfl (ok18) (szCat_no _ _ ?_ ?_ ?_ _)) ?_; (focus (omega)); (focus (omega)); (focus (omega)))))
      | (refine kWL ?_; first | (refine WL.seq ?_) | (refine WL.region (by kernel_rfl) ?_) | (refine WL.ret ?_) | (refine kCond ?_; first | (refine WL.condT rfl ?_)))
      | (refine lthen_n ?_)
      | (refine lthen_r ?_)
      | (refine LPost.r1 (r := .tmp 4) (.inl rfl) (Res1.tmp rfl) ?_)
    rfl
  obtain ⟨W, hW⟩ : ∃ w, wgt (.sl 0 (l.map ESrc.v)) = w := ⟨_, rfl⟩
  by_cases hb2 : 1048576 < x.wt + W
  · skip
    repeat' first
      | (refine kOps ?_; first | (refine LOps.nil ?_) | (refine LOps.ev tT_ok rfl ?_) | (refine kBox ?_; refine LOps.box rfl rfl rfl rfl ?_) | (refine kLoad ?_; first | (refine LOps.ans (AnsL.loadP tT_ok rfl rfl rfl rfl) ?_)) | (refine kCallN 18 ?_; first | (refine LOps.ans (AnsL.callP rfl rfl rfl (ok18) (szCat_ok _ _ ?_ ?_ _)) ?_; (focus (omega)); (focus (omega)))) | (refine kCallN 19 ?_; first | (refine LOps.ans (AnsL.callP rfl rfl rfl (ok19) ((szSourceS_c l).noE hW ?_ ?_ ?_ _)) ?_; (focus (omega)); (focus (omega)); (focus (omega)))))
      | (refine kWL ?_; first | (refine WL.seq ?_) | (refine WL.region (by kernel_rfl) ?_) | (refine WL.skip ?_) | (refine WL.ret ?_) | (refine kCond ?_; first | (refine WL.condT rfl ?_) | (refine WL.condF' rfl ?_ ?_; (focus (first | (simp only [decide_eq_true_eq, decide_eq_false_iff_not, Bool.not_eq_true', Bool.not_eq_false', Int.ofNat_lt, Int.ofNat_le, Int.ofNat_inj, not_true_eq_false, not_false_eq_true]; omega))))))
      | (refine lthen_n ?_)
      | (refine lthen_r ?_)
      | (refine LPost.r1 (r := .tmp 4) (.inl rfl) (Res1.tmp rfl) ?_)
    rfl
  have hl := len_slW Tab.wt x.tables
  have hll := wgt_len ESrc.v l
  rw [hW] at hll
  have h1 : (1 : Int) ≤ nkT x.toV 1 := nkT_le _ _
  have h1' : (1 : Int) ≤ nkT (.sl 0 (l.map ESrc.v)) (nkT x.toV 1) := Int.le_trans h1 (nkT_le _ _)
  have h3 : nkT x.toV 1 ≤ 4000000000000 := by
    have b1 := nkT_sc x.toV 1
    have b2 := sc_tabs x.tables (by simp only [Cat.wt] at hb; omega)
    simp only [Cat.wt] at hb
    simp only [Cat.toV, sc, scL] at b1 ⊢
    omega
  have h3' : nkT (.sl 0 (l.map ESrc.v)) (nkT x.toV 1) ≤ 4000000000000 := by
    have a1 := nkT_sc (.sl 0 (l.map ESrc.v)) (nkT x.toV 1)
    have a2 := srcs_sc l
    have b1 := nkT_sc x.toV 1
    have b2 := sc_tabs x.tables (by simp only [Cat.wt] at hb; omega)
    simp only [Cat.wt] at hb hb2
    simp only [Cat.toV, sc, scL] at a1 b1 ⊢
    omega
  have hS := fun t => specScopeOf_o x l (by omega) (by omega) t
  have hI := fun t => implScopeOf_o x l (by omega) (by omega) t
  have hn := scopeOf_len x l (by omega) (by omega)
  simp only [scopeV] at hS hI
  obtain ⟨⟨ns, w, e⟩, hq⟩ : ∃ r, scopeOf x l [] [] = r := ⟨_, rfl⟩
  rw [hq] at hS hI hn
  dsimp only at hS hI hn
  have hn2 : ns.length ≤ 1099511627776 := hn
  have hps : (V.sl 0 (l.map ESrc.v)).plain = true := plain_SourceS l
  have hn3 : (Scope.mk ns).names.length ≤ 4398046511104 := by show ns.length ≤ _; omega
  have hp : (Scope.toV ⟨ns⟩).plain = true := plainL_cons (plain_NamedS ns) rfl
  have h2 : (1 : Int) ≤ nkT (Scope.toV ⟨ns⟩) 1 := nkT_le _ _
  have h4 : nkT (Scope.toV ⟨ns⟩) 1 ≤ 4000000000000 := by
    have a1 := nkT_sc (Scope.toV ⟨ns⟩) 1
    have a2 := scL_map (f := Named.toV) 3 (fun _ => Nat.le_refl 3) ns
    simp only [Scope.toV, sc, scL] at a1 ⊢
    omega
  change ∀ t, VCalls Try.prog 9 _ t (fun v t' => Own2 (.tup [Scope.toV ⟨ns⟩, .int .i64 w, .str e]) v t') at hS
  change ∀ t, VCalls Try.prog 8 _ t (fun v t' => Own2 (.tup [Scope.toV ⟨ns⟩, .int .i64 w, .str e]) v t') at hI
  repeat' first
    | (refine kBox ?_ ; first | (refine LOps.boxH hh rfl rfl ?_ ; intro s n hh))
    | (refine kAlloc ?_ ; refine LOps.allocH tT_ok hh rfl rfl ?_ ; intro s n hh)
    | (refine kStore ?_ ; first | (refine LOps.storeHW tT_ok 0 hh rfl rfl rfl rfl rfl rfl rfl ?_ ; intro s hh))
    | (refine kCallN 20 ?_ ; refine LOps.lendH rfl rfl ok20 hh ?_ (fun t => toCat_o x (by omega) t) (hx) ?_ ; (focus ((repeat' first | (exact RdH.nil) | (refine RdH.cons ?_ ?_) | (refine RdV.pl ?_; (focus (first | (assumption))))); done)) ; intro s n hh)
    | (refine kCallN 21 ?_ ; refine LOps.lendH rfl rfl ok21 hh ?_ (fun t => toSourceS_c l (by omega) t) (plain_SourceS l) ?_ ; (focus ((repeat' first | (exact RdH.nil) | (refine RdH.cons ?_ ?_) | (refine RdV.pl ?_; (focus (first | (assumption))))); done)) ; intro s n hh)
    | (refine kCallN 9 ?_ ; refine LOps.lendHT rfl rfl ok9 hh ?_ (fun t => hS t) (hp) rfl ?_ ; (focus ((repeat' first | (exact RdH.nil) | (refine RdH.cons ?_ ?_) | (refine RdV.th' ?_; (focus (((repeat' first | (exact .head _) | (refine .tail _ ?_)); done))))); done)) ; intro s n hh)
    | (refine kCallN 8 ?_ ; refine LOps.lendHT rfl rfl ok8 hh ?_ (fun t => hI t) (hp) rfl ?_ ; (focus ((repeat' first | (exact RdH.nil) | (refine RdH.cons ?_ ?_) | (refine RdV.th' ?_; (focus (((repeat' first | (exact .head _) | (refine .tail _ ?_)); done))))); done)) ; intro s n hh)
    | (refine kCallN 25 ?_ ; first | (refine LOps.markH 5 rfl rfl ok25 hh rfl rfl (markCatalog_t x) rfl ?_ ?_ ?_ ; (focus (first | assumption | omega)) ; (focus (first | assumption | omega)) ; intro s hh))
    | (refine kCallN 26 ?_ ; first | (refine LOps.markH 3 rfl rfl ok26 hh rfl rfl ((markSourceS_c l).toT) rfl ?_ ?_ ?_ ; (focus (first | assumption | omega)) ; (focus (first | assumption | omega)) ; intro s hh))
    | (refine kCallN 27 ?_ ; first | (refine LOps.markH 2 rfl rfl ok27 hh rfl rfl (markScope_t ⟨ns⟩) rfl ?_ ?_ ?_ ; (focus (first | assumption | omega)) ; (focus (first | assumption | omega)) ; intro s hh))
    | (refine kOps ?_; first | (refine LOps.nil ?_) | (refine kG ?_; first | (refine LOps.gT rfl rfl rfl ?_) | (refine LOps.gD false rfl rfl rfl ?_ ?_; (focus (first | (simp only [decide_eq_true_eq, decide_eq_false_iff_not, Bool.not_eq_true', Bool.not_eq_false', Int.ofNat_lt, Int.ofNat_le, Int.ofNat_inj, not_true_eq_false, not_false_eq_true]; omega) | (simp <;> fail))))) | (refine LOps.ev tT_ok rfl ?_) | (refine kLoad ?_; first | (refine LOps.ans (AnsL.loadHW tT_ok 0 hh rfl rfl rfl rfl) ?_) | (refine LOps.ans (AnsL.loadHW tT_ok 1 hh rfl rfl rfl rfl) ?_) | (refine LOps.ans (AnsL.loadHW tT_ok 4 hh rfl rfl rfl rfl) ?_) | (refine LOps.ans (AnsL.loadHW tT_ok 5 hh rfl rfl rfl rfl) ?_) | (refine LOps.ans (AnsL.loadHW tT_ok 6 hh rfl rfl rfl rfl) ?_) | (refine LOps.ans (AnsL.loadHW tT_ok 10 hh rfl rfl rfl rfl) ?_) | (refine LOps.ans (AnsL.loadH tT_ok 0 hh rfl rfl rfl rfl) ?_) | (refine LOps.ans (AnsL.loadH tT_ok 4 hh rfl rfl rfl rfl) ?_) | (refine LOps.ans (AnsL.loadH tT_ok 10 hh rfl rfl rfl rfl) ?_)) | (refine kCallN 18 ?_; first | (refine LOps.ans (AnsL.callP rfl rfl rfl (ok18) (szCat_ok _ _ ?_ ?_ _)) ?_; (focus (omega)); (focus (omega)))) | (refine kCallN 19 ?_; first | (refine LOps.ans (AnsL.callP rfl rfl rfl (ok19) ((szSourceS_c l).okE hW ?_ ?_ _)) ?_; (focus (omega)); (focus (omega)))) | (refine kCallN 22 ?_; first | (refine LOps.ans (AnsL.callP rfl rfl rfl ok22 (VCalls.lookH rfl hh ?_ (fun t => eqScope_w ⟨ns⟩ hn3 t))) ?_; (focus (((repeat' first | (exact RdH.nil) | (refine RdH.cons ?_ ?_) | (refine RdV.th' ?_; (focus (((repeat' first | (exact .head _) | (refine .tail _ ?_)); done))))); done))))) | (refine kCallN 24 ?_; first | (refine LOps.ans (AnsL.callP rfl rfl rfl ok24 (VCalls.lookH rfl hh ?_ (fun t => eqSourceS_c l (by omega) t))) ?_; (focus (((repeat' first | (exact RdH.nil) | (refine RdH.cons ?_ ?_) | (refine RdV.th' ?_; (focus (((repeat' first | (exact .head _) | (refine .tail _ ?_)); done))))); done))))) | (refine kCallN 28 ?_; first | (refine LOps.ans (AnsL.callP rfl rfl rfl ok28 (VCalls.lookH rfl hh ?_ (fun t => heldScope_t ⟨ns⟩ 1 t (by decide) h4))) ?_; (focus (((repeat' first | (exact RdH.nil) | (refine RdH.cons ?_ ?_) | (refine RdV.mk' ?_; (focus (((repeat' first | (exact .head _) | (refine .tail _ ?_)); done)))) | (refine RdV.pl ?_; (focus (first | (rfl))))); done))))))
    | (refine kWL ?_; first | (refine WL.seq ?_) | (refine WL.region (by kernel_rfl) ?_) | (refine WL.drawn (id := 14) [0, 1, 2, 3, 4] [] [[], [], [1], [0, 1, 2], [0, 1, 2, 3]] (by kernel_rfl) (by kernel_rfl) ?_) | (refine WL.skip ?_) | (refine WL.ret ?_) | (refine kCond ?_; first | (refine WL.condF rfl ?_) | (refine WL.condF' rfl ?_ ?_; (focus (first | (simp only [decide_eq_true_eq, decide_eq_false_iff_not, Bool.not_eq_true', Bool.not_eq_false', Int.ofNat_lt, Int.ofNat_le, Int.ofNat_inj, not_true_eq_false, not_false_eq_true]; omega) | (simp <;> fail))))))
    | (refine kDr ?_; first | (refine LDr.nil ?_) | (refine LDr.fl rfl rfl (.ev tT_ok rfl) ?_) | (refine kDLoad rfl ?_; first | (refine LDr.fl rfl rfl (AnsL.loadHW tT_ok 3 hh rfl rfl rfl rfl) ?_) | (refine LDr.fl rfl rfl (AnsL.loadH tT_ok 9 hh rfl rfl rfl rfl) ?_)) | (refine kDCallN 20 rfl ?_; first | (refine LDr.fl rfl rfl (AnsL.callP rfl rfl rfl (ok20) (toCat_v _ ?_ _)) ?_; (focus (omega)))) | (refine kDCallN 23 rfl ?_; first | (refine LDr.fl rfl rfl (AnsL.callP rfl rfl rfl ok23 (VCalls.lookH rfl hh ?_ (fun t => eqCat_v x (by omega) t))) ?_; (focus (((repeat' first | (exact RdH.nil) | (refine RdH.cons ?_ ?_) | (refine RdV.th' ?_; (focus (((repeat' first | (exact .head _) | (refine .tail _ ?_)); done)))) | (refine RdV.pl ?_; (focus (first | (assumption))))); done))))))
    | (refine lthen_n ?_)
    | (refine LPost.r1 (r := .tmp 4) (.inl rfl) (Res1.tmp rfl) ?_)
  rfl

end Go.Proofs.Ytoagpmhdgllchaa
