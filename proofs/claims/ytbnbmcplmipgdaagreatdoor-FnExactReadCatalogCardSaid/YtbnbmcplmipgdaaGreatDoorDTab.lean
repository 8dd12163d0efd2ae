/-
  A table read from tokens, of the reference. Own work; no condition.
-/
import Derived.Test.YtbnbmcplmipgdaaGreatDoorDCTi
namespace Go.Proofs.YtbnbmcplmipgdaaGreatDoor
open Go
set_option linter.unusedSimpArgs false
set_option linter.unusedVariables false

theorem nmP_ge (l : List Token) (q : Pst) : q.1 ≤ (nmP l q).1 := by
  unfold nmP; split <;> dsimp only <;> omega
theorem sgP_ge (l : List Token) (b : List UInt8) (q : Pst) : q.1 ≤ (sgP l b q).1 := by
  unfold sgP; split <;> dsimp only <;> omega
theorem colQ_ge (l : List Token) (q : Pst) : q.1 ≤ (colQ l q).1 := Nat.le_trans (nmP_ge l q) (nmP_ge l _)
theorem colQ_le {l : List Token} {q : Pst} (h : q.1 ≤ l.length) : (colQ l q).1 ≤ l.length := nmP_le (nmP_le h)
abbrev colS (y : List Col × Nat × Nat) : V := .slm (.is y.2.1) y.2.2 0 y.1.length
abbrev tabF (nm : List UInt8) (y : List Col × Nat × Nat) : V := .agg [.str nm, colS y]
abbrev colO (y : List Col × Nat × Nat) : BE := .own (colS y) (.sl 0 (y.1.map Col.toV))
set_option maxHeartbeats 8000000 in
theorem specl16Table_p (l : List Token) (hl : l.length ≤ 1048576) (ht : ∀ t ∈ l, t.text.length ≤ 1048576) (q : Pst) (hq : q.1 ≤ l.length) :
    PtrB Tryz.prog 12 [] (parV l q) [] (fun y : Nat × Nat => tabF (nmX l q) ((tabP tyS true l q).1, y)) (fun _ => parV l (tabQ tyS true l q)) (fun y => [colO ((tabP tyS true l q).1, y)]) (fun _ => True) := by
  intro s H m hh
  have k1 := specl12Text_p l hl ht q hq
  have k2 := specl12Sign_p l hl [40] (nmP l q) (nmP_le hq)
  have k3 := specl12Step_p l hl (isTk l (nmP l q) 5 [40]) (nmP l q) (nmP_le hq)
  rw [sgP_st] at k3
  have hR : tabP tyS true l q = if ((sgP l [40] (nmP l q)).2) = true then ([], sgP l [40] (nmP l q)) else colsP tyS l (l.length + 1) (sgP l [40] (nmP l q)) [] := rfl
  unfold tabQ
  generalize tabP tyS true l q = R at hR ⊢
  have hP1 := sgP_le (b := [40]) (nmP_le hq)
  generalize nmX l q = nm at k1 ⊢
  generalize isTk l (nmP l q) 5 [40] = b1 at k2 k3
  generalize sgP l [40] (nmP l q) = p1 at k3 hR hP1
  dsimp only [List.nil_append] at hh
  refine LCalls.body0 Tryz.func12 rfl (by kernel_rfl) ?_
  repeat' first
    | (refine kAlloc ?_ ; refine LOps.allocH tT_ok hh rfl rfl ?_ ; intro s n hh)
    | (refine kStore ?_ ; first | (refine LOps.storeH tT_ok 0 hh rfl rfl rfl rfl rfl rfl rfl rfl rfl ?_ ; intro s hh))
    | (refine kCallN 30 ?_ ; first | (refine LOps.ptrC 1 rfl rfl ok30 hh rfl rfl (k1) ?_ ; intro s hh))
    | (refine kCallN 11 ?_ ; first | (refine LOps.ptrC 1 rfl rfl ok11 hh rfl rfl (k2) ?_ ; intro s hh))
    | (refine kCallN 10 ?_ ; first | (refine LOps.ptrC 0 rfl rfl ok10 hh rfl rfl (k3) ?_ ; intro s hh))
    | (refine kOps ?_; first | (refine LOps.nil ?_) | (refine' LOps.ans (v := .agg _) (AnsL.buildZ tT_ok rfl rfl rfl rfl ?_) ?_; rotate_left 1; (focus ((repeat' first | (exact Fills.nil) | (refine' Fills.cons rfl rfl rfl rfl ?_)); done))) | (refine LOps.ev tT_ok rfl ?_))
    | (refine kWL ?_; first | (refine WL.seq ?_) | (refine WL.region (by kernel_rfl) ?_) | (refine WL.block ?_))
    | (refine lthen_n ?_)
  rename_i n0 _ _ _ _ _ _ _ _ _
  obtain ⟨tn, rfl⟩ : ∃ tn, tn = n := ⟨n, rfl⟩
  replace hh := hh.nil0
  refine WL.loopH (fun y : (List Col × Nat × Nat) × Pst × Nat => l.length - y.2.1.1) (fun y => [(0, .ptr m 0), (2, .ptr n0 0), (3, .ptr tn 0)])
    (fun y => colO y.1 :: .cell m (parV l y.2.1) :: .cell tn [.str nm, colS y.1] :: .cell n0 [.str [], .nilsl] :: H)
    (fun y => y.2.1.1 ≤ l.length ∧ y.1.1.length ≤ y.2.1.1 ∧ ((y.2.1.2 = true ∧ R = (y.1.1, y.2.1)) ∨ (y.2.1.2 = false ∧ l.length < y.2.2 + y.2.1.1 ∧ R = colsP tyS l y.2.2 y.2.1 y.1.1)))
    (([], 0, 0), p1, l.length + 1) ⟨hP1, Nat.zero_le _, ?_⟩ ⟨rfl, rfl, rfl, trivial⟩ hh (Sel.refl _) (fun y s hI hh => ?_)
  · dsimp only
    cases hb : p1.2
    · rw [hb] at hR
      exact .inr ⟨rfl, by omega, hR⟩
    · rw [hb] at hR
      exact .inl ⟨rfl, hR⟩
  obtain ⟨⟨cs, c0, l0⟩, p, f⟩ := y
  obtain ⟨i1, i2, i3⟩ := hI
  dsimp only at i1 i2 i3 hh ⊢
  rcases i3 with ⟨i4, i5⟩ | ⟨i4, i5, i6⟩
  · subst i5
    obtain ⟨a, bad⟩ := p
    dsimp only at i1 i2 i4
    subst i4
    have k8 := specl12Sign_p l hl [41] (a, true) i1
    have k9 := specl12Step_p l hl (isTk l (a, true) 5 [41]) (a, true) i1
    rw [sgP_st] at k9
    dsimp only
    generalize isTk l (a, true) 5 [41] = b3 at k8 k9
    generalize sgP l [41] (a, true) = pz at k9 ⊢
    unfold parV at hh k8 k9
    unfold colO colS at hh
    dsimp only at hh
    repeat' first
      | (refine kStore ?_ ; first | (refine LOps.storeH tT_ok 3 hh rfl rfl rfl rfl rfl rfl rfl rfl rfl ?_ ; intro s hh))
      | (refine kCallN 11 ?_ ; first | (refine LOps.ptrC 1 rfl rfl ok11 hh rfl rfl (k8) ?_ ; intro s hh))
      | (refine kCallN 10 ?_ ; first | (refine LOps.ptrC 0 rfl rfl ok10 hh rfl rfl (k9) ?_ ; intro s hh))
      | (refine kOps ?_; first | (refine LOps.nil ?_) | (refine LOps.ev tT_ok rfl ?_) | (refine kLoad ?_; first | (refine LOps.ans (AnsL.loadH tT_ok 1 hh rfl rfl rfl rfl) ?_) | (refine LOps.ans (AnsL.loadH tT_ok 2 hh rfl rfl rfl rfl) ?_)))
      | (refine kWL ?_; first | (refine WL.seq ?_) | (refine WL.region (by kernel_rfl) ?_) | (refine WL.exit ?_) | (refine WL.ret ?_) | (refine kCond ?_; first | (refine WL.condF rfl ?_)))
      | (refine lthen_n ?_)
      | (refine lthen_e ?_)
      | (refine lblock_e ?_)
      | (refine lbackH_e ?_)
      | (refine' LPost.r1 (r := .cell 2 40) (.inl rfl) ?_ ?_; rotate_left 1; (focus (first | (exact Res1.cellH 3 tT_ok hh rfl rfl rfl rfl))))
    exact PtrB.fin (y := (c0, l0)) trivial rfl hh (by dsimp only [colO, colS, List.cons_append, List.nil_append]; (repeat' first | (exact Sel.nil) | (exact Sel.refl _) | (refine' Sel.p ?_ ?_; rotate_left 1; (focus (((repeat' first | (exact Pick.here) | (refine' Pick.there ?_)); done))))); (repeat' first | (exact Sel.refl _) | (refine Sel.drop ?_)))
  · cases f with
    | zero => omega
    | succ f =>
      unfold colsP at i6
      have hB : (cs.map Col.toV).length ≤ 1048576 := by rw [List.length_map]; omega
      have k4 := specl12Text_p l hl ht p i1
      have k5 := specl12Text_p l hl ht (nmP l p) (nmP_le i1)
      have k6 := specl12Sign_p l hl [44] (colQ l p) (colQ_le i1)
      have g1 := colQ_ge l p
      have g2 := colQ_le i1
      have kT := fun u => specl16Type_v (nmX l (nmP l p)) u
      have hcol : colR tyS l p = ⟨nmX l p, tyS (nmX l (nmP l p))⟩ := rfl
      have hq2 : nmP l (nmP l p) = colQ l p := rfl
      rw [hq2] at k5
      generalize nmX l p = x1 at k4 hcol
      generalize nmX l (nmP l p) = x2 at k5 kT hcol
      generalize nmP l p = pm at k4 k5
      generalize tyS x2 = x3 at kT hcol
      obtain ⟨a, bad⟩ := p
      dsimp only at i1 i2 i4 i5 g1
      subst i4
      cases hb2 : isTk l (colQ l (a, false)) 5 [44]
      · rw [hb2] at k6 i6
        rw [if_neg (by decide)] at i6
        subst i6
        have k8 := specl12Sign_p l hl [41] (colQ l (a, false)) g2
        have k9 := specl12Step_p l hl (isTk l (colQ l (a, false)) 5 [41]) (colQ l (a, false)) g2
        rw [sgP_st] at k9
        dsimp only
        generalize isTk l (colQ l (a, false)) 5 [41] = b3 at k8 k9
        generalize sgP l [41] (colQ l (a, false)) = pz at k9 ⊢
        generalize colQ l (a, false) = pc at k5 k6 k8 k9
        generalize colR tyS l (a, false) = col at hcol ⊢
        subst hcol
        replace hh : Hold s s.next (.own (.slm (.is c0) l0 0 cs.length) (.sl 0 (cs.map Col.toV)) :: .cell m [.sl 0 (tkV l), .int .i64 (a : Int), .bool false] :: .cell tn [.str nm, .slm (.is c0) l0 0 cs.length] :: .cell n0 [.str [], .nilsl] :: H) := hh
        unfold parV at k4
        dsimp only at k4
        repeat' first
          | (refine kStore ?_ ; first | (refine LOps.storeH tT_ok 2 hh rfl rfl rfl rfl rfl rfl rfl rfl rfl ?_ ; intro s hh) | (refine LOps.storeH tT_ok 3 hh rfl rfl rfl rfl rfl rfl rfl rfl rfl ?_ ; intro s hh))
          | (refine kApp ?_ ; first | (refine' LOps.appW tT_ok 1 rfl rfl rfl rfl rfl rfl rfl rfl rfl rfl hh ?_ ?_ ?_ (AppB.of ?_ rfl) ?_ ; rotate_left 2 ; (focus (first | (intro x hx; obtain ⟨y, _, rfl⟩ := List.mem_map.1 hx; first | rfl | exact PE.cells_len _ | exact PE.planV_len _ | exact EE.cells_len _ | exact EE.queryV_len _))) ; (focus ((repeat' first | (exact ConsOL.nil) | (exact ConsO.scal rfl) | (refine' ConsOL.cons ?_ ?_) | (refine' ConsO.agg ?_)); done)) ; (focus ((repeat' first | (exact Elems.of rfl)); done)) ; (focus (first | omega | (simp ; omega))) ; intro s c n hh))
          | (refine kCallN 30 ?_ ; first | (refine LOps.ptrC 1 rfl rfl ok30 hh rfl rfl (k4) ?_ ; intro s hh))
          | (refine kCallN 30 ?_ ; first | (refine LOps.ptrC 0 rfl rfl ok30 hh rfl rfl (k5) ?_ ; intro s hh))
          | (refine kCallN 11 ?_ ; first | (refine LOps.ptrC 1 rfl rfl ok11 hh rfl rfl (k6) ?_ ; intro s hh))
          | (refine kCallN 11 ?_ ; first | (refine LOps.ptrC 0 rfl rfl ok11 hh rfl rfl (k8) ?_ ; intro s hh))
          | (refine kCallN 10 ?_ ; first | (refine LOps.ptrC 0 rfl rfl ok10 hh rfl rfl (k9) ?_ ; intro s hh))
          | (refine kOps ?_; first | (refine LOps.nil ?_) | (refine LOps.ev tT_ok rfl ?_) | (refine kLoad ?_; first | (refine LOps.ans (AnsL.loadH tT_ok 1 hh rfl rfl rfl rfl) ?_) | (refine LOps.ans (AnsL.loadH tT_ok 2 hh rfl rfl rfl rfl) ?_)) | (refine kCallN 31 ?_; first | (refine LOps.ans (AnsL.callP rfl rfl rfl (ok31) (kT _)) ?_)))
          | (refine kWL ?_; first | (refine WL.seq ?_) | (refine WL.region (by kernel_rfl) ?_) | (refine WL.drawn (id := 5) [0, 1, 2, 3, 4, 5, 6, 7, 8, 9, 10] [4, 5, 8, 10] [[], [0], [], [], [3], [3, 4], [2, 3, 4, 5], [2, 3, 4, 5, 6], [0, 1, 2, 3, 4, 5, 6, 7], [0, 1, 2, 3, 4, 5, 6, 7, 8], [0, 1, 2, 3, 4, 5, 6, 7, 8, 9]] (by kernel_rfl) (by kernel_rfl) ?_) | (refine WL.block ?_) | (refine WL.exit ?_) | (refine WL.skip ?_) | (refine WL.ret ?_) | (refine kCond ?_; first | (refine WL.condT rfl ?_)))
          | (refine kDr ?_; first | (refine LDr.nil ?_) | (refine' LDr.fl (v := .agg _) rfl rfl (AnsL.buildZ tT_ok rfl rfl rfl rfl ?_) ?_; rotate_left 1; (focus ((repeat' first | (exact Fills.nil) | (refine' Fills.cons rfl rfl rfl rfl ?_)); done))) | (refine LDr.fl rfl rfl (.ev tT_ok rfl) ?_) | (refine LDr.fl rfl rfl (AnsL.bslF tT_ok rfl rfl rfl rfl rfl rfl rfl rfl rfl) ?_) | (refine kDLoad rfl ?_; first | (refine LDr.fl rfl rfl (AnsL.loadH tT_ok 2 hh rfl rfl rfl rfl) ?_)) | (refine LDr.eff rfl rfl rfl ?_))
          | (refine lthen_n ?_)
          | (refine lthen_e ?_)
          | (refine lblock_e ?_)
          | (refine lblock_o rfl ?_)
          | (refine lbackH_e ?_)
          | (refine' LPost.r1 (r := .cell 2 40) (.inl rfl) ?_ ?_; rotate_left 1; (focus (first | (exact Res1.cellH 3 tT_ok hh rfl rfl rfl rfl))))
          | (refine And.intro ?_ ?_)
          | (exact StsL.nil)
          | (refine StsL.cons ?_ ?_)
          | (refine StL.fl rfl rfl (.ev tT_ok rfl))
          | (refine StL.fl rfl rfl (AnsL.loadH tT_ok 2 hh rfl rfl rfl rfl))
        simp only [List.length_map, List.length_cons, List.length_nil, Nat.zero_add] at hh
        have e1 : cs.length + 1 = (cs ++ [Col.mk x1 x3]).length := by simp
        have e2 : cs.map Col.toV ++ [V.agg [.str x1, .int .i64 x3]] = (cs ++ [Col.mk x1 x3]).map Col.toV := by simp [Col.toV]
        rw [e1, e2] at hh
        refine PtrB.fin (y := (c, n)) trivial ?_ hh (.cons 1 rfl rfl (.cons 0 rfl rfl (.drop (.drop (Sel.refl _)))))
        simp [tabF, colS]
      · rw [hb2] at k6 i6
        rw [if_pos rfl] at i6
        obtain ⟨hb3, hb4⟩ := isTk_lt hb2
        have k7 := specl12Step_p l hl true (colQ l (a, false)) g2
        have hst : stP true (colQ l (a, false)) = ((colQ l (a, false)).1 + 1, (colQ l (a, false)).2) := by
          unfold stP
          rw [hb4]
          rfl
        rw [hst] at k7
        generalize colR tyS l (a, false) = col at hcol i6
        replace hh : Hold s s.next (.own (.slm (.is c0) l0 0 cs.length) (.sl 0 (cs.map Col.toV)) :: .cell m [.sl 0 (tkV l), .int .i64 (a : Int), .bool false] :: .cell tn [.str nm, .slm (.is c0) l0 0 cs.length] :: .cell n0 [.str [], .nilsl] :: H) := hh
        unfold parV at k4
        dsimp only at k4
        generalize hpc : colQ l (a, false) = pc at k5 k6 k7 i6 g1 g2 hb3 hb4
        subst hcol
        repeat' first
          | (refine kStore ?_ ; first | (refine LOps.storeH tT_ok 2 hh rfl rfl rfl rfl rfl rfl rfl rfl rfl ?_ ; intro s hh))
          | (refine kApp ?_ ; first | (refine' LOps.appW tT_ok 1 rfl rfl rfl rfl rfl rfl rfl rfl rfl rfl hh ?_ ?_ ?_ (AppB.of ?_ rfl) ?_ ; rotate_left 2 ; (focus (first | (intro x hx; obtain ⟨y, _, rfl⟩ := List.mem_map.1 hx; first | rfl | exact PE.cells_len _ | exact PE.planV_len _ | exact EE.cells_len _ | exact EE.queryV_len _))) ; (focus ((repeat' first | (exact ConsOL.nil) | (exact ConsO.scal rfl) | (refine' ConsOL.cons ?_ ?_) | (refine' ConsO.agg ?_)); done)) ; (focus ((repeat' first | (exact Elems.of rfl)); done)) ; (focus (first | omega | (simp ; omega))) ; intro s c n hh))
          | (refine kCallN 30 ?_ ; first | (refine LOps.ptrC 1 rfl rfl ok30 hh rfl rfl (k4) ?_ ; intro s hh))
          | (refine kCallN 30 ?_ ; first | (refine LOps.ptrC 0 rfl rfl ok30 hh rfl rfl (k5) ?_ ; intro s hh))
          | (refine kCallN 11 ?_ ; first | (refine LOps.ptrC 1 rfl rfl ok11 hh rfl rfl (k6) ?_ ; intro s hh))
          | (refine kCallN 10 ?_ ; first | (refine LOps.ptrC 0 rfl rfl ok10 hh rfl rfl (k7) ?_ ; intro s hh))
          | (refine kOps ?_; first | (refine LOps.nil ?_) | (refine LOps.ev tT_ok rfl ?_) | (refine kLoad ?_; first | (refine LOps.ans (AnsL.loadH tT_ok 1 hh rfl rfl rfl rfl) ?_)) | (refine kCallN 31 ?_; first | (refine LOps.ans (AnsL.callP rfl rfl rfl (ok31) (kT _)) ?_)))
          | (refine kWL ?_; first | (refine WL.seq ?_) | (refine WL.region (by kernel_rfl) ?_) | (refine WL.drawn (id := 5) [0, 1, 2, 3, 4, 5, 6, 7, 8, 9, 10] [4, 5, 8, 10] [[], [0], [], [], [3], [3, 4], [2, 3, 4, 5], [2, 3, 4, 5, 6], [0, 1, 2, 3, 4, 5, 6, 7], [0, 1, 2, 3, 4, 5, 6, 7, 8], [0, 1, 2, 3, 4, 5, 6, 7, 8, 9]] (by kernel_rfl) (by kernel_rfl) ?_) | (refine WL.block ?_) | (refine WL.skip ?_) | (refine kCond ?_; first | (refine WL.condT rfl ?_) | (refine WL.condF rfl ?_)))
          | (refine kDr ?_; first | (refine LDr.nil ?_) | (refine' LDr.fl (v := .agg _) rfl rfl (AnsL.buildZ tT_ok rfl rfl rfl rfl ?_) ?_; rotate_left 1; (focus ((repeat' first | (exact Fills.nil) | (refine' Fills.cons rfl rfl rfl rfl ?_)); done))) | (refine LDr.fl rfl rfl (.ev tT_ok rfl) ?_) | (refine LDr.fl rfl rfl (AnsL.bslF tT_ok rfl rfl rfl rfl rfl rfl rfl rfl rfl) ?_) | (refine kDLoad rfl ?_; first | (refine LDr.fl rfl rfl (AnsL.loadH tT_ok 2 hh rfl rfl rfl rfl) ?_)) | (refine LDr.eff rfl rfl rfl ?_))
          | (refine lthen_n ?_)
          | (refine lblock_n ?_)
          | (refine And.intro ?_ ?_)
          | (exact StsL.nil)
          | (refine StsL.cons ?_ ?_)
          | (refine StL.fl rfl rfl (.ev tT_ok rfl))
          | (refine StL.fl rfl rfl (AnsL.loadH tT_ok 2 hh rfl rfl rfl rfl))
        simp only [List.length_map, List.length_cons, List.length_nil, Nat.zero_add] at hh
        have e1 : cs.length + 1 = (cs ++ [Col.mk x1 x3]).length := by simp
        have e2 : cs.map Col.toV ++ [V.agg [.str x1, .int .i64 x3]] = (cs ++ [Col.mk x1 x3]).map Col.toV := by simp [Col.toV]
        rw [e1, e2] at hh
        exact lbackH.of ((cs ++ [Col.mk x1 x3], c, n), (pc.1 + 1, pc.2), f) ⟨rfl, rfl, rfl, trivial⟩ hh (.cons 1 rfl rfl (.cons 0 rfl rfl (.cons 0 rfl rfl (.cons 0 rfl rfl (Sel.refl _))))) ⟨by dsimp only; omega, by rw [← e1]; dsimp only; omega, .inr ⟨hb4, by dsimp only; omega, i6⟩⟩ (by dsimp only; omega)

end Go.Proofs.YtbnbmcplmipgdaaGreatDoor
