/-
  A list without one pair of parentheses: the reference's WithoutPair, walked; and the law. Own work; no condition.
-/
import Derived.Test.YtoededaekidbcaaDDelI
namespace Go.Proofs.Ytoededaekidbcaa
open Go
set_option linter.unusedSimpArgs false
set_option linter.unusedVariables false

theorem AnsL.slcU {P : Program} {L : Kn} {s : S} {tt : BT} (ht : tt.ok P) {us ys : List V} {T e : TypeId} {t te : Ty} {x i : Operand} {id n : Nat} {k : IntKind} (hx : opd L x = some (.sl id us)) (hT : tt.get T = some t) (hkd : t.kd = .slice e) (hte : tt.get e = some te) (hi : opd L i = some (.int k (n : Int)))
    (hn : n ≤ us.length) (hy : us.take n = ys) : AnsL P (.slice T x none (some i) none) L s (.sl 0 ys) := by
  subst hy
  exact AnsL.slcT ht hx hT hkd hte hi hn
theorem AnsL.slcD {P : Program} {L : Kn} {s : S} {tt : BT} (ht : tt.ok P) {us ys : List V} {T e : TypeId} {t te : Ty} {x i : Operand} {id n : Nat} {m : Int} {k : IntKind} (hx : opd L x = some (.sl id us)) (hT : tt.get T = some t) (hkd : t.kd = .slice e) (hte : tt.get e = some te) (hi : opd L i = some (.int k m)) (hm : m = (n : Int))
    (hn : n ≤ us.length) (hsz : ∀ x ∈ us, x.cells.length = te.size) (hy : us.drop n = ys) : AnsL P (.slice T x (some i) none none) L s (.sl 0 ys) := by
  subst hm hy
  have hsz' : (us.all fun x => decide (x.cells.length = te.size)) = true := by rw [List.all_eq_true]; exact fun x hx => by simpa using hsz x hx
  refine AnsL.slc (lo' := some (.int k (n : Int))) (hi' := none) (mx' := none) hx (by simp only [opdO, hi]) rfl rfl ?_
  simp only [vslice, ht.get hT, hkd, ht.get hte, Option.bind_some, bound, Int.toNat_natCast, Int.natCast_nonneg, if_true]
  rw [if_pos ⟨hn, Nat.le_refl _, .inr hsz'⟩, List.take_of_length_le (by simp)]
theorem AnsL.slcB {P : Program} {L : Kn} {s : S} {tt : BT} (ht : tt.ok P) {us ys : List V} {T e : TypeId} {t te : Ty} {x i j : Operand} {id n n2 : Nat} {m m2 : Int} {k k2 : IntKind} (hx : opd L x = some (.sl id us)) (hT : tt.get T = some t) (hkd : t.kd = .slice e) (hte : tt.get e = some te) (hi : opd L i = some (.int k m)) (hj : opd L j = some (.int k2 m2)) (hm : m = (n : Int)) (hm2 : m2 = (n2 : Int))
    (hn : n ≤ n2) (hn2 : n2 ≤ us.length) (hsz : ∀ x ∈ us, x.cells.length = te.size) (hy : (us.take n2).drop n = ys) : AnsL P (.slice T x (some i) (some j) none) L s (.sl 0 ys) := by
  subst hm hm2 hy
  have hsz' : (us.all fun x => decide (x.cells.length = te.size)) = true := by rw [List.all_eq_true]; exact fun x hx => by simpa using hsz x hx
  refine AnsL.slc (lo' := some (.int k (n : Int))) (hi' := some (.int k2 (n2 : Int))) (mx' := none) hx (by simp only [opdO, hi]) (by simp only [opdO, hj]) rfl ?_
  simp only [vslice, ht.get hT, hkd, ht.get hte, Option.bind_some, bound, Int.toNat_natCast, Int.natCast_nonneg, if_true]
  rw [if_pos ⟨hn, hn2, .inr hsz'⟩, List.drop_take]

theorem specl1In_w (x lo hi : Int) (s : S) : VCalls Try.prog 35 [.int .i64 x, .int .i64 lo, .int .i64 hi] s (fun v s' => v = .bool (decide (lo ≤ x) && decide (x ≤ hi)) ∧ s' = s) := by
  by_cases h1 : x ≥ lo
  · have h1' : lo ≤ x := h1
    by_cases h2 : x ≤ hi
    all_goals
      refine LCalls.pure Try.func35 rfl (by kernel_rfl) (by simp) ?_
      repeat' first
        | (refine kOps ?_; first | (refine LOps.nil ?_) | (refine kG ?_; first | (refine LOps.gT rfl rfl rfl ?_) | (refine LOps.gD true rfl rfl rfl ?_ ?_; (focus (first | (exact decide_eq_true (by assumption)))))) | (refine LOps.ev tT_ok rfl ?_))
        | (refine kWL ?_; first | (refine WL.seq ?_) | (refine WL.region (by kernel_rfl) ?_) | (refine WL.ret ?_))
        | (refine lthen_n ?_)
        | (refine LPost.r1 (r := .tmp 6) (.inl rfl) (Res1.tmp rfl) ?_)
        | (refine PureR.mk ?_)
      simp [h1', h2]
  · have h1' : ¬ lo ≤ x := h1
    refine LCalls.pure Try.func35 rfl (by kernel_rfl) (by simp) ?_
    repeat' first
      | (refine kOps ?_; first | (refine LOps.nil ?_) | (refine kG ?_; first | (refine LOps.gF rfl rfl rfl ?_) | (refine LOps.gD false rfl rfl rfl ?_ ?_; (focus (first | (exact decide_eq_false (by assumption)))))) | (refine LOps.ev tT_ok rfl ?_))
      | (refine kWL ?_; first | (refine WL.seq ?_) | (refine WL.region (by kernel_rfl) ?_) | (refine WL.ret ?_))
      | (refine lthen_n ?_)
      | (refine LPost.r1 (r := .tmp 6) (.inl rfl) (Res1.tmp rfl) ?_)
      | (refine PureR.mk ?_)
    simp [h1']

theorem slW_sub {f : Token → Nat} {a b : List Token} (h : a.Sublist b) : slW f a ≤ slW f b := by
  induction h with
  | slnil => exact Nat.le_refl _
  | cons x h ih => simp only [slW, sumW, List.map_cons, List.sum_cons, List.length_cons] at *; omega
  | cons_cons x h ih => simp only [slW, sumW, List.map_cons, List.sum_cons, List.length_cons] at *; omega
theorem wP_sub (l : List Token) (k : Int) : (wP l k).Sublist l := by
  by_cases hk : 0 ≤ k ∧ k < ((pairs l).length : Int)
  · obtain ⟨q, rfl⟩ : ∃ q : Nat, k = (q : Int) := ⟨k.toNat, by omega⟩
    have hq : q < (pairs l).length := by omega
    obtain ⟨a, b, e, hab, hbl⟩ := pairs_bnd hq
    rw [wP_in hq e, ← cutP_erase hab hbl]
    exact (List.eraseIdx_sublist ..).trans (List.eraseIdx_sublist ..)
  · rw [wP_out hk]; exact List.Sublist.refl _

set_option maxHeartbeats 4000000 in
theorem specWithoutPair_o (l : List Token) (hl : l.length ≤ 1048576) (k : Int) (s : S) : VCalls Try.prog 15 [.sl 0 (l.map Token.toV), .int .i64 k] s (fun v t => Own2 (.sl 0 ((wP l k).map Token.toV)) v t) := by
  have hP := fun t => VCalls.pureOf (ds := [.sl 0 (l.map Token.toV)]) (by simpa [V.plainL] using plain_TokenS l) (plain_pairs (pairs l)) (fun t => specPairsOf_o l hl t) t
  have hpl := pairs_len l
  by_cases hk : 0 ≤ k ∧ k < ((pairs l).length : Int)
  · obtain ⟨q, rfl⟩ : ∃ q : Nat, k = (q : Int) := ⟨k.toNat, by omega⟩
    have hq : q < (pairs l).length := by omega
    obtain ⟨a, b, e, hab, hbl⟩ := pairs_bnd hq
    have hg : ((pairs l).map pairV)[q]? = some (.sl 0 [.int .i64 (a : Int), .int .i64 (b : Int)]) := by simp [hq, e, pairV]
    have hI := fun t => specl1In_w (q : Int) 0 (((pairs l).length : Int) - 1) t
    rw [show (decide ((0 : Int) ≤ (q : Int)) && decide ((q : Int) ≤ ((pairs l).length : Int) - 1)) = true by simp; omega] at hI
    rw [wP_in hq e]
    have hus := tok_sz l
    have h1 : (a : Int) + 1 = ((a + 1 : Nat) : Int) := by omega
    have h2 : (b : Int) + 1 = ((b + 1 : Nat) : Int) := by omega
    have hml : (l.map Token.toV).length = l.length := List.length_map ..
    have h3 : a ≤ (l.map Token.toV).length := by omega
    have h4 : b ≤ (l.map Token.toV).length := by omega
    have h5 : b + 1 ≤ (l.map Token.toV).length := by omega
    have h6 : a + 1 ≤ b := hab
    have y1 : (l.map Token.toV).take a = (l.take a).map Token.toV := (List.map_take ..).symm
    have y2 : ((l.map Token.toV).take b).drop (a + 1) = ((l.take b).drop (a + 1)).map Token.toV := by rw [← List.map_take, ← List.map_drop]
    have y3 : (l.map Token.toV).drop (b + 1) = (l.drop (b + 1)).map Token.toV := (List.map_drop ..).symm
    refine LCalls.body Try.func15 rfl (by kernel_rfl) ?_
    repeat' first
      | (refine kOps ?_; first | (refine LOps.nil ?_) | (refine LOps.ev tT_ok rfl ?_) | (refine kBsl ?_; first | (refine LOps.bsl0 tT_ok rfl rfl rfl rfl rfl ?_)) | (refine kApp ?_; first | (refine LOps.app tT_ok rfl rfl rfl rfl rfl rfl rfl rfl rfl rfl rfl ?_ ?_ (AppB.of ?_ rfl) ?_; (focus (first | rfl | (simp <;> fail))); (focus (first | exact Elems.of rfl | exact Elems.map fun _ => rfl | exact PE.els _ (fun _ => rfl) _)); (focus (first | omega | (simp; omega)))) | (refine LOps.app0 tT_ok rfl rfl rfl rfl rfl rfl rfl rfl rfl rfl rfl ?_ (AppB.of ?_ rfl) ?_; (focus (first | exact Elems.of rfl | exact Elems.map fun _ => rfl | exact PE.els _ (fun _ => rfl) _)); (focus (first | omega | (simp; omega))))) | (refine kLen ?_; first | (refine LOps.ans (AnsL.lenM tT_ok rfl rfl rfl) ?_)) | (refine kBin ?_; first | (refine LOps.ans (AnsL.add rfl rfl ?_) ?_; (focus (constructor <;> omega))) | (refine LOps.ans (AnsL.sub rfl rfl ?_) ?_; (focus (constructor <;> omega)))) | (refine kIdx ?_; first | (refine LOps.ans (AnsL.idx tT_ok rfl rfl rfl rfl rfl hg rfl rfl) ?_) | (refine LOps.ans (AnsL.idxZ tT_ok rfl rfl rfl rfl rfl ?_ rfl rfl rfl) ?_; (focus (decide)))) | (refine kSlc ?_; first | (refine LOps.ans (AnsL.slcU (n := a) tT_ok rfl rfl rfl rfl rfl h3 y1) ?_) | (refine LOps.ans (AnsL.slcD (n := b + 1) tT_ok rfl rfl rfl rfl rfl h2 h5 hus y3) ?_)) | (refine kCallN 35 ?_; first | (refine LOps.ans (AnsL.callP rfl rfl rfl (ok35) (hI _)) ?_)) | (refine kCallN 7 ?_; first | (refine LOps.ans (AnsL.callP rfl rfl rfl (ok7) (hP _)) ?_)))
      | (refine kWL ?_; first | (refine WL.seq ?_) | (refine WL.region (by kernel_rfl) ?_) | (refine WL.drawn (id := 5) [0, 1, 2, 3, 4, 5, 6, 7, 8, 9, 10, 11, 12, 13, 14, 15, 16, 17] [16, 17] [[], [], [], [], [2, 3], [2, 3, 4], [2, 3, 4, 5], [2, 3, 4, 5, 6], [2, 3, 4, 5, 6, 7], [], [], [9, 10], [9, 10, 11], [9, 10, 11, 12], [9, 10, 11, 12, 13], [1, 2, 3, 4, 5, 6, 7, 8, 9, 10, 11, 12, 13, 14], [0, 1, 2, 3, 4, 5, 6, 7, 8, 9, 10, 11, 12, 13, 14, 15], [0, 1, 2, 3, 4, 5, 6, 7, 8, 9, 10, 11, 12, 13, 14, 15, 16]] (by kernel_rfl) (by kernel_rfl) ?_) | (refine WL.skip ?_) | (refine WL.ret ?_) | (refine kCond ?_; first | (refine WL.condF rfl ?_)))
      | (refine kDr ?_; first | (refine LDr.nil ?_) | (refine LDr.fl rfl rfl (.ev tT_ok rfl) ?_) | (refine kDBin rfl ?_; first | (refine LDr.fl rfl rfl (AnsL.add rfl rfl ?_) ?_; (focus (constructor <;> omega)))) | (refine kDIdx rfl ?_; first | (refine LDr.fl rfl rfl (AnsL.idx tT_ok rfl rfl rfl rfl rfl hg rfl rfl) ?_) | (refine LDr.fl rfl rfl (AnsL.idxZ tT_ok rfl rfl rfl rfl rfl ?_ rfl rfl rfl) ?_; (focus (decide)))) | (refine kDSlc rfl ?_; first | (refine LDr.fl rfl rfl (AnsL.slcB (n := a + 1) (n2 := b) tT_ok rfl rfl rfl rfl rfl rfl h1 rfl h6 h4 hus y2) ?_)) | (refine LDr.eff rfl rfl rfl ?_))
      | (refine lthen_n ?_)
      | (refine LPost.r1 (r := .tmp 4) (.inl rfl) (Res1.tmp rfl) ?_)
      | (refine And.intro ?_ ?_)
      | (exact StsL.nil)
    have hE : (l.take a).map Token.toV ++ ((l.take b).drop (a + 1)).map Token.toV ++ (l.drop (b + 1)).map Token.toV = (cutP l a b).map Token.toV := by rw [← List.map_append, ← List.map_append]; rfl
    rw [← List.length_append, hE, List.length_map]
    exact Own2.fam (f := Token.toV) (cs := cutP l a b) (szf := 3) 3 rfl (fun _ => rfl) (fun _ => rfl)
  · rw [wP_out hk]
    have hI := fun t => specl1In_w k 0 (((pairs l).length : Int) - 1) t
    rw [show (decide ((0 : Int) ≤ k) && decide (k ≤ ((pairs l).length : Int) - 1)) = false by simp; omega] at hI
    refine LCalls.body Try.func15 rfl (by kernel_rfl) ?_
    repeat' first
      | (refine kOps ?_; first | (refine LOps.nil ?_) | (refine LOps.ev tT_ok rfl ?_) | (refine kBsl ?_; first | (refine LOps.bsl0 tT_ok rfl rfl rfl rfl rfl ?_)) | (refine kApp ?_; first | (refine LOps.app0 tT_ok rfl rfl rfl rfl rfl rfl rfl rfl rfl rfl rfl ?_ (AppB.of ?_ rfl) ?_; (focus (first | exact Elems.of rfl | exact Elems.map fun _ => rfl | exact PE.els _ (fun _ => rfl) _)); (focus (first | omega | (simp; omega))))) | (refine kLen ?_; first | (refine LOps.ans (AnsL.lenM tT_ok rfl rfl rfl) ?_)) | (refine kBin ?_; first | (refine LOps.ans (AnsL.sub rfl rfl ?_) ?_; (focus (constructor <;> omega)))) | (refine kCallN 35 ?_; first | (refine LOps.ans (AnsL.callP rfl rfl rfl (ok35) (hI _)) ?_)) | (refine kCallN 7 ?_; first | (refine LOps.ans (AnsL.callP rfl rfl rfl (ok7) (hP _)) ?_)))
      | (refine kWL ?_; first | (refine WL.seq ?_) | (refine WL.region (by kernel_rfl) ?_) | (refine WL.ret ?_) | (refine kCond ?_; first | (refine WL.condT rfl ?_)))
      | (refine lthen_n ?_)
      | (refine lthen_r ?_)
      | (refine LPost.r1 (r := .tmp 4) (.inl rfl) (Res1.tmp rfl) ?_)
    exact Own2.fam (f := Token.toV) (cs := l) (szf := 3) 3 (by simp [nthO]) (fun _ => rfl) (fun _ => rfl)

set_option maxHeartbeats 4000000 in
theorem lawWithoutPair_v (l : List Token) (k : Int) (s : S) : VCalls Try.prog 4 [.sl 0 (l.map Token.toV), .int .i64 k] s (fun v _ => v = .bool true) := by
  have hx : (V.sl 0 (l.map Token.toV)).plain = true := plain_TokenS _
  have hh : Hold s s.next [] := .start _ _
  refine LCalls.body Try.func4 rfl (by kernel_rfl) ?_
  by_cases hb : 1048576 < slW Token.wt l
  · skip
    repeat' first
      | (refine kOps ?_; first | (refine LOps.nil ?_) | (refine LOps.ev tT_ok rfl ?_) | (refine kCallN 6 ?_; first | (refine LOps.ans (AnsL.callP rfl rfl rfl (ok6) (szTokenS_no _ _ ?_ ?_ ?_ _)) ?_; (focus (omega)); (focus (omega)); (focus (omega)))))
      | (refine kWL ?_; first | (refine WL.seq ?_) | (refine WL.region (by kernel_rfl) ?_) | (refine WL.ret ?_) | (refine kCond ?_; first | (refine WL.condT rfl ?_)))
      | (refine lthen_n ?_)
      | (refine lthen_r ?_)
      | (refine LPost.r1 (r := .tmp 4) (.inl rfl) (Res1.tmp rfl) ?_)
    rfl
  have hl := len_slW Token.wt l
  have hS := fun t => specWithoutPair_o l (by omega) k t
  have hI := fun t => implWithoutPair_o l (by omega) k t
  have hRw : slW Token.wt (wP l k) ≤ slW Token.wt l := slW_sub (wP_sub l k)
  generalize wP l k = R at hS hI hRw
  have hRl := len_slW Token.wt R
  have hr : (V.sl 0 (R.map Token.toV)).plain = true := plain_TokenS _
  have h1 : (1 : Int) ≤ nkT (.sl 0 (l.map Token.toV)) 1 := nkT_le _ _
  have h2 : (1 : Int) ≤ nkT (.sl 0 (R.map Token.toV)) 1 := nkT_le _ _
  have h3 : nkT (.sl 0 (l.map Token.toV)) 1 ≤ 4000000000000 := by
    have a1 := nkT_sc (.sl 0 (l.map Token.toV)) 1
    have a2 := scL_map (f := Token.toV) 3 (fun _ => Nat.le_refl 3) l
    simp only [sc] at a1 ⊢
    omega
  have h4 : nkT (.sl 0 (R.map Token.toV)) 1 ≤ 4000000000000 := by
    have a1 := nkT_sc (.sl 0 (R.map Token.toV)) 1
    have a2 := scL_map (f := Token.toV) 3 (fun _ => Nat.le_refl 3) R
    simp only [sc] at a1 ⊢
    omega
  repeat' first
    | (refine kCallN 8 ?_ ; refine LOps.lendH rfl rfl ok8 hh ?_ (fun t => toTokenS_o l (by omega) t) (hx) ?_ ; (focus ((repeat' first | (exact RdH.nil) | (refine RdH.cons ?_ ?_) | (refine RdV.pl ?_; (focus (first | (assumption))))); done)) ; intro s n hh)
    | (refine kCallN 15 ?_ ; refine LOps.lendH rfl rfl ok15 hh ?_ (fun t => hS t) (hr) ?_ ; (focus ((repeat' first | (exact RdH.nil) | (refine RdH.cons ?_ ?_) | (refine RdV.th' ?_; (focus (((repeat' first | (exact .head _)); done)))) | (refine RdV.pl ?_; (focus (first | (rfl))))); done)) ; intro s n hh)
    | (refine kCallN 16 ?_ ; refine LOps.lendH rfl rfl ok16 hh ?_ (fun t => hI t) (hr) ?_ ; (focus ((repeat' first | (exact RdH.nil) | (refine RdH.cons ?_ ?_) | (refine RdV.th' ?_; (focus (((repeat' first | (exact .head _)); done)))) | (refine RdV.pl ?_; (focus (first | (rfl))))); done)) ; intro s n hh)
    | (refine kCallN 12 ?_ ; first | (refine LOps.markH 2 rfl rfl ok12 hh rfl rfl (markTokenS_t l) rfl ?_ ?_ ?_ ; (focus (first | assumption | omega)) ; (focus (first | assumption | omega)) ; intro s hh))
    | (refine kCallN 12 ?_ ; first | (refine LOps.markH 1 rfl rfl ok12 hh rfl rfl (markTokenS_t R) rfl ?_ ?_ ?_ ; (focus (first | assumption | omega)) ; (focus (first | assumption | omega)) ; intro s hh))
    | (refine kOps ?_; first | (refine LOps.nil ?_) | (refine kG ?_; first | (refine LOps.gT rfl rfl rfl ?_) | (refine LOps.gD false rfl rfl rfl ?_ ?_; (focus (first | (simp only [decide_eq_true_eq, decide_eq_false_iff_not, Bool.not_eq_true', Bool.not_eq_false', Int.ofNat_lt, Int.ofNat_le, Int.ofNat_inj, not_true_eq_false, not_false_eq_true]; omega))))) | (refine LOps.ev tT_ok rfl ?_) | (refine kCallN 11 ?_; first | (refine LOps.ans (AnsL.callP rfl rfl rfl ok11 (VCalls.lookH rfl hh ?_ (fun t => eqTokenS_v R (by omega) t))) ?_; (focus (((repeat' first | (exact RdH.nil) | (refine RdH.cons ?_ ?_) | (refine RdV.th' ?_; (focus (((repeat' first | (exact .head _) | (refine .tail _ ?_)); done))))); done)))) | (refine LOps.ans (AnsL.callP rfl rfl rfl ok11 (VCalls.lookH rfl hh ?_ (fun t => eqTokenS_v l (by omega) t))) ?_; (focus (((repeat' first | (exact RdH.nil) | (refine RdH.cons ?_ ?_) | (refine RdV.th' ?_; (focus (((repeat' first | (exact .head _) | (refine .tail _ ?_)); done))))); done))))) | (refine kCallN 17 ?_; first | (refine LOps.ans (AnsL.callP rfl rfl rfl ok17 (VCalls.lookH rfl hh ?_ (fun t => heldTokenS_t R 1 t (by decide) h4))) ?_; (focus (((repeat' first | (exact RdH.nil) | (refine RdH.cons ?_ ?_) | (refine RdV.mk' ?_; (focus (((repeat' first | (exact .head _) | (refine .tail _ ?_)); done)))) | (refine RdV.pl ?_; (focus (first | (rfl))))); done))))) | (refine kCallN 6 ?_; first | (refine LOps.ans (AnsL.callP rfl rfl rfl (ok6) (szTokenS_ok _ _ ?_ ?_ _)) ?_; (focus (omega)); (focus (omega)))))
    | (refine kWL ?_; first | (refine WL.seq ?_) | (refine WL.region (by kernel_rfl) ?_) | (refine WL.skip ?_) | (refine WL.ret ?_) | (refine kCond ?_; first | (refine WL.condF rfl ?_) | (refine WL.condF' rfl ?_ ?_; (focus (first | (simp only [decide_eq_true_eq, decide_eq_false_iff_not, Bool.not_eq_true', Bool.not_eq_false', Int.ofNat_lt, Int.ofNat_le, Int.ofNat_inj, not_true_eq_false, not_false_eq_true]; omega) | (simp <;> fail))))))
    | (refine lthen_n ?_)
    | (refine LPost.r1 (r := .tmp 4) (.inl rfl) (Res1.tmp rfl) ?_)
  rfl

end Go.Proofs.Ytoededaekidbcaa
