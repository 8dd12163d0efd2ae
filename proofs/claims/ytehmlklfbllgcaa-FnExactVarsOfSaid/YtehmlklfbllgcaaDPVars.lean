/-
  All references of plans, of the program and of the reference. Printed by a program of our own; no condition.
-/
import Derived.Test.YtehmlklfbllgcaaDPFree2
namespace Go.Proofs.Ytehmlklfbllgcaa
open Go
set_option linter.unusedSimpArgs false
set_option linter.unusedVariables false

set_option maxHeartbeats 4000000 in
theorem specVars_c (e : PE) : wgt e.v ≤ 1048576 → ∀ (u : Int) (us : List Bind), us.length + (e.col varAt u).length ≤ 4000000 →
    AppC Try.prog 95 (fun o => [e.v, o]) 3 (us.map Bind.toV) ((us ++ e.col varAt u).map Bind.toV) := by
  induction e using PE.ind with
  | h e ih1 ih2 =>
    intro hw u us h2 s H id hh
    refine VCalls.wf fun hwf => ?_
    have hup : -9223372036854775808 ≤ e.up ∧ e.up ≤ 9223372036854775807 := by
      simp only [PE.v, List.all_cons, List.all_nil, V.wf, V.wfL, Bool.and_true, Bool.and_eq_true, decide_eq_true_eq, min_i64, max_i64] at hwf
      exact ⟨by omega, by omega⟩
    clear hwf
    have hsl0 := wgt_len PE.planV e.sub
    have hkl0 := wgt_len PE.toV e.kids
    have e1 := PE.wgt_eq2 e
    rw [PE.col_eq] at h2 ⊢
    simp only [List.length_append] at h2
    refine LCalls.body0 Try.func95 rfl (by kernel_rfl) ?_
    by_cases hk : e.kind = 2
    · have hfa : varAt u e.kind e.up e.pos = [⟨e.up, e.pos, 0⟩] := by simp [varAt, hk]
      rw [hfa] at h2 ⊢
      simp only [List.length_cons, List.length_nil] at h2
      repeat' first
        | (refine kBox ?_ ; first | (refine LOps.boxH hh rfl rfl ?_ ; intro s n hh))
        | (refine kBsl ?_ ; refine' LOps.bslH tT_ok rfl rfl rfl rfl rfl rfl rfl rfl hh ?_ ?_ ?_ ; rotate_left 2 ; (focus ((repeat' first | (exact ConsL.pls rfl rfl)); done)) ; (focus ((repeat' first | (exact ElsH.of rfl)); done)) ; intro s n hh)
        | (refine kApp ?_ ; first | (refine' LOps.appH tT_ok 2 rfl rfl rfl rfl rfl rfl rfl rfl rfl rfl hh ?_ ?_ (AppB.of ?_ rfl) ?_ ; rotate_left 3 ; (focus (first | (refine' ConsSp.ap ?_; ((repeat' first | (exact Pick.here)); done)))) ; (focus ((repeat' first | (exact Elems.of rfl)); done)) ; (focus (first | omega | (simp ; omega))) ; intro s hh))
        | (refine kOps ?_; first | (refine LOps.nil ?_) | (refine LOps.ev tT_ok rfl ?_) | (refine kLoad ?_; first | (refine LOps.ans (AnsL.loadH tT_ok 0 hh rfl rfl rfl rfl) ?_)))
        | (refine kWL ?_; first | (refine WL.seq ?_) | (refine WL.region (by kernel_rfl) ?_) | (refine WL.block ?_) | (refine kCond ?_; first | (refine WL.condT' rfl ?_ ?_; (focus (first | (exact decide_eq_true (by assumption)))))))
        | (refine lthen_n ?_)
      rename_i nb _ _ _
      have hY0 : us.map Bind.toV ++ [.agg [.int .i64 e.up, .int .i64 e.pos, .int .i64 0]] = (us ++ [(⟨e.up, e.pos, 0⟩ : Bind)] ++ (e.kids.take 0).flatMap (PE.col varAt u)).map Bind.toV := by simp [Bind.toV]
      rw [hY0] at hh ⊢
      refine WL.loopH (fun i : Nat => e.kids.length - i) (fun i => [(1, .sl id ((us ++ [(⟨e.up, e.pos, 0⟩ : Bind)] ++ (e.kids.take i).flatMap (PE.col varAt u)).map Bind.toV)), (2, .ptr nb 0), (5, .int .i64 (i : Int))])
        (fun i => .acc id 3 ((us ++ [(⟨e.up, e.pos, 0⟩ : Bind)] ++ (e.kids.take i).flatMap (PE.col varAt u)).map Bind.toV) ((us ++ [(⟨e.up, e.pos, 0⟩ : Bind)] ++ (e.kids.take i).flatMap (PE.col varAt u)).map Bind.toV) :: .cell nb e.v.cells :: H) (fun i => i ≤ e.kids.length) 0 (Nat.zero_le _) ⟨rfl, rfl, rfl, trivial⟩ hh ?_ (fun i s hi hh => ?_)
      · (repeat' first | (exact Sel.refl _) | (refine Sel.cons 0 rfl rfl ?_) | (refine Sel.cons 1 rfl rfl ?_) | (refine Sel.cons 2 rfl rfl ?_) | (refine Sel.cons 3 rfl rfl ?_) | (refine Sel.drop ?_))
      try dsimp only at hi hh ⊢
      have hl := flatMap_take_len (PE.col varAt u) e.kids i
      rcases Nat.lt_or_ge i e.kids.length with hlt | hge
      · have hl2 := flatMap_take_len (PE.col varAt u) e.kids (i + 1)
        have hga : (e.kids.map PE.toV)[i]? = some (PE.v e.kids[i]) := by rw [List.getElem?_map, List.getElem?_eq_getElem hlt]; simp only [Option.map_some, PE.toV_eq]
        have ht := flatMap_take (PE.col varAt u) hlt
        have hE := ih1 e.kids[i] (List.getElem_mem hlt) (Nat.le_trans (PE.wgt_kid (List.getElem_mem hlt)) hw) u (us ++ [(⟨e.up, e.pos, 0⟩ : Bind)] ++ (e.kids.take i).flatMap (PE.col varAt u)) (by rw [ht, List.length_append] at hl2; simp only [List.length_append, List.length_cons, List.length_nil]; omega)
        have hY : us ++ [(⟨e.up, e.pos, 0⟩ : Bind)] ++ (e.kids.take (i + 1)).flatMap (PE.col varAt u) = us ++ [(⟨e.up, e.pos, 0⟩ : Bind)] ++ (e.kids.take i).flatMap (PE.col varAt u) ++ PE.col varAt u e.kids[i] := by rw [ht]; simp only [List.append_assoc]
        generalize e.kids[i] = x at hga hE hY
        generalize us ++ [(⟨e.up, e.pos, 0⟩ : Bind)] ++ (e.kids.take i).flatMap (PE.col varAt u) = ys at hE hY hh ⊢
        repeat' first
          | (refine kCallN 95 ?_ ; refine LOps.accH 0 rfl hE rfl ok95 hh rfl rfl ?_ ; intro s hh)
          | (refine kOps ?_; first | (refine LOps.nil ?_) | (refine LOps.ev tT_ok rfl ?_) | (refine kLoad ?_; first | (refine LOps.ans (AnsL.loadH tT_ok 1 hh rfl rfl rfl rfl) ?_)) | (refine kLen ?_; first | (refine LOps.ans (AnsL.lenM tT_ok rfl rfl rfl) ?_)) | (refine kBin ?_; first | (refine LOps.ans (AnsL.add rfl rfl ?_) ?_; (focus (constructor <;> omega)))) | (refine kIdx ?_; first | (refine LOps.ans (AnsL.idx tT_ok rfl rfl rfl rfl rfl hga rfl rfl) ?_)))
          | (refine kWL ?_; first | (refine WL.seq ?_) | (refine WL.region (by kernel_rfl) ?_) | (refine WL.block ?_) | (refine WL.skip ?_) | (refine kCond ?_; first | (refine WL.condT' rfl ?_ ?_; (focus (first | (simp only [decide_eq_true_eq, decide_eq_false_iff_not, Bool.not_eq_true', Bool.not_eq_false', Int.ofNat_lt, Int.ofNat_le, Int.ofNat_inj, not_true_eq_false, not_false_eq_true]; omega))))))
          | (refine lthen_n ?_)
          | (refine lblock_n ?_)
        refine lbackH.of (i + 1) ?_ hh ?_ hlt (by omega)
        · try dsimp only
          rw [hY]
          repeat' first | exact SubL.nil | (refine SubL.mk rfl ?_ ?_) | rfl | (simp; omega)
        · try dsimp only
          rw [hY]
          (repeat' first | (exact Sel.refl _) | (refine Sel.cons 0 rfl rfl ?_) | (refine Sel.cons 1 rfl rfl ?_) | (refine Sel.cons 2 rfl rfl ?_) | (refine Sel.cons 3 rfl rfl ?_) | (refine Sel.drop ?_))
      rw [List.take_of_length_le hge] at hl hh ⊢
      generalize e.kids.flatMap (PE.col varAt u) = kk at hl hh h2 ⊢
      repeat' first
        | (refine kOps ?_; first | (refine LOps.nil ?_) | (refine LOps.ev tT_ok rfl ?_) | (refine kLoad ?_; first | (refine LOps.ans (AnsL.loadH tT_ok 1 hh rfl rfl rfl rfl) ?_)) | (refine kLen ?_; first | (refine LOps.ans (AnsL.lenM tT_ok rfl rfl rfl) ?_)))
        | (refine kWL ?_; first | (refine WL.seq ?_) | (refine WL.region (by kernel_rfl) ?_) | (refine WL.block ?_) | (refine WL.exit ?_) | (refine kCond ?_; first | (refine WL.condF' rfl ?_ ?_; (focus (first | (simp only [decide_eq_true_eq, decide_eq_false_iff_not, Bool.not_eq_true', Bool.not_eq_false', Int.ofNat_lt, Int.ofNat_le, Int.ofNat_inj, not_true_eq_false, not_false_eq_true]; omega))))))
        | (refine lthen_n ?_)
        | (refine lthen_e ?_)
        | (refine lblock_e ?_)
        | (refine lbackH_e ?_)
      have hZ0 : us ++ [(⟨e.up, e.pos, 0⟩ : Bind)] ++ kk = us ++ [(⟨e.up, e.pos, 0⟩ : Bind)] ++ kk ++ (e.sub.take 0).flatMap (PE.colP varAt (u + 1)) := by simp
      rw [hZ0] at hh ⊢
      refine WL.loopH (fun i : Nat => e.sub.length - i) (fun i => [(1, .sl id ((us ++ [(⟨e.up, e.pos, 0⟩ : Bind)] ++ kk ++ (e.sub.take i).flatMap (PE.colP varAt (u + 1))).map Bind.toV)), (2, .ptr nb 0), (6, .int .i64 (i : Int))])
        (fun i => .acc id 3 ((us ++ [(⟨e.up, e.pos, 0⟩ : Bind)] ++ kk ++ (e.sub.take i).flatMap (PE.colP varAt (u + 1))).map Bind.toV) ((us ++ [(⟨e.up, e.pos, 0⟩ : Bind)] ++ kk ++ (e.sub.take i).flatMap (PE.colP varAt (u + 1))).map Bind.toV) :: .cell nb e.v.cells :: H) (fun i => i ≤ e.sub.length) 0 (Nat.zero_le _) ⟨rfl, rfl, rfl, trivial⟩ hh ?_ (fun i s hi hh => ?_)
      · (repeat' first | (exact Sel.refl _) | (refine Sel.cons 0 rfl rfl ?_) | (refine Sel.cons 1 rfl rfl ?_) | (refine Sel.cons 2 rfl rfl ?_) | (refine Sel.cons 3 rfl rfl ?_) | (refine Sel.drop ?_))
      try dsimp only at hi hh ⊢
      have hm := flatMap_take_len (PE.colP varAt (u + 1)) e.sub i
      rcases Nat.lt_or_ge i e.sub.length with hlt | hge
      · have hm2 := flatMap_take_len (PE.colP varAt (u + 1)) e.sub (i + 1)
        have hga : (e.sub.map PE.planV)[i]? = some (PL.v e.sub[i]) := by rw [List.getElem?_map, List.getElem?_eq_getElem hlt]; simp only [Option.map_some, PE.planV_eq]
        have hpw := PE.wgt_sub (List.getElem_mem hlt)
        have hP := fun t => specParts_v e.sub[i] (Nat.le_trans hpw hw) t
        have hpl := PL.parts_len e.sub[i]
        have hI : ∀ k ∈ e.sub[i].parts, ∀ ys : List Bind, ys.length + (k.col varAt (u + 1)).length ≤ 4000000 → AppC Try.prog 95 (fun o => [k.v, o]) 3 (ys.map Bind.toV) ((ys ++ k.col varAt (u + 1)).map Bind.toV) := fun k hk ys hy => by
          have h6 := sumW_one (fun k : PE => wgt k.v) e.sub[i].parts
          have h7 := PL.parts_w e.sub[i]
          have h8 : 1 + wgt k.v ≤ sumW (fun k => 1 + wgt k.v) e.sub[i].parts := by
            obtain ⟨j, hj, rfl⟩ := List.getElem_of_mem hk
            exact sumW_mem (f := fun k : PE => 1 + wgt k.v) hj
          exact ih2 _ (List.getElem_mem hlt) k hk (by omega) (u + 1) ys hy
        have ht := flatMap_take (PE.colP varAt (u + 1)) hlt
        rw [PE.colP_eq] at ht
        rw [ht, List.length_append] at hm2
        have hzl : (us ++ [(⟨e.up, e.pos, 0⟩ : Bind)] ++ kk ++ (e.sub.take i).flatMap (PE.colP varAt (u + 1))).length + (e.sub[i].parts.flatMap (PE.col varAt (u + 1))).length ≤ 4000000 := by simp only [List.length_append, List.length_cons, List.length_nil]; omega
        have hY : us ++ [(⟨e.up, e.pos, 0⟩ : Bind)] ++ kk ++ (e.sub.take (i + 1)).flatMap (PE.colP varAt (u + 1)) = us ++ [(⟨e.up, e.pos, 0⟩ : Bind)] ++ kk ++ (e.sub.take i).flatMap (PE.colP varAt (u + 1)) ++ e.sub[i].parts.flatMap (PE.col varAt (u + 1)) := by rw [ht]; simp only [List.append_assoc]
        generalize e.sub[i] = x at hga hP hI hpl hpw hzl hY
        generalize x.parts = ps at hP hI hpl hzl hY
        generalize us ++ [(⟨e.up, e.pos, 0⟩ : Bind)] ++ kk ++ (e.sub.take i).flatMap (PE.colP varAt (u + 1)) = zs at hY hzl hh ⊢
        repeat' first
          | (refine kOps ?_; first | (refine LOps.nil ?_) | (refine LOps.ev tT_ok rfl ?_) | (refine kLoad ?_; first | (refine LOps.ans (AnsL.loadH tT_ok 1 hh rfl rfl rfl rfl) ?_)) | (refine kLen ?_; first | (refine LOps.ans (AnsL.lenM tT_ok rfl rfl rfl) ?_)) | (refine kIdx ?_; first | (refine LOps.ans (AnsL.idx tT_ok rfl rfl rfl rfl rfl hga rfl rfl) ?_)) | (refine kCallN 94 ?_; first | (refine LOps.ans (AnsL.callP rfl rfl rfl (ok94) (hP _)) ?_)))
          | (refine kWL ?_; first | (refine WL.seq ?_) | (refine WL.region (by kernel_rfl) ?_) | (refine WL.block ?_) | (refine WL.skip ?_) | (refine kCond ?_; first | (refine WL.condT' rfl ?_ ?_; (focus (first | (simp only [decide_eq_true_eq, decide_eq_false_iff_not, Bool.not_eq_true', Bool.not_eq_false', Int.ofNat_lt, Int.ofNat_le, Int.ofNat_inj, not_true_eq_false, not_false_eq_true]; omega))))))
          | (refine lthen_n ?_)
        have hW0 : zs.map Bind.toV = (zs ++ (ps.take 0).flatMap (PE.col varAt (u + 1))).map Bind.toV := by simp
        rw [hW0] at hh ⊢
        refine WL.loopH (fun j : Nat => ps.length - j) (fun j => [(1, .sl id ((zs ++ (ps.take j).flatMap (PE.col varAt (u + 1))).map Bind.toV)), (2, .ptr nb 0), (6, .int .i64 (i : Int)), (7, .sl 0 (ps.map PE.toV)), (8, .int .i64 (j : Int))])
          (fun j => .acc id 3 ((zs ++ (ps.take j).flatMap (PE.col varAt (u + 1))).map Bind.toV) ((zs ++ (ps.take j).flatMap (PE.col varAt (u + 1))).map Bind.toV) :: .cell nb e.v.cells :: H) (fun j => j ≤ ps.length) 0 (Nat.zero_le _) ⟨rfl, rfl, rfl, rfl, rfl, trivial⟩ hh ?_ (fun j s hj hh => ?_)
        · (repeat' first | (exact Sel.refl _) | (refine Sel.cons 0 rfl rfl ?_) | (refine Sel.cons 1 rfl rfl ?_) | (refine Sel.cons 2 rfl rfl ?_) | (refine Sel.cons 3 rfl rfl ?_) | (refine Sel.drop ?_))
        try dsimp only at hj hh ⊢
        have hn := flatMap_take_len (PE.col varAt (u + 1)) ps j
        rcases Nat.lt_or_ge j ps.length with hlt2 | hge2
        · have hn2 := flatMap_take_len (PE.col varAt (u + 1)) ps (j + 1)
          have hgb : (ps.map PE.toV)[j]? = some (PE.v ps[j]) := by rw [List.getElem?_map, List.getElem?_eq_getElem hlt2]; simp only [Option.map_some, PE.toV_eq]
          have ht2 := flatMap_take (PE.col varAt (u + 1)) hlt2
          rw [ht2, List.length_append] at hn2
          have hE := hI ps[j] (List.getElem_mem hlt2) (zs ++ (ps.take j).flatMap (PE.col varAt (u + 1))) (by simp only [List.length_append]; omega)
          have hX : zs ++ (ps.take (j + 1)).flatMap (PE.col varAt (u + 1)) = zs ++ (ps.take j).flatMap (PE.col varAt (u + 1)) ++ PE.col varAt (u + 1) ps[j] := by rw [ht2]; simp only [List.append_assoc]
          generalize ps[j] = y at hgb hE hX
          generalize zs ++ (ps.take j).flatMap (PE.col varAt (u + 1)) = ys at hE hX hh ⊢
          repeat' first
            | (refine kCallN 95 ?_ ; refine LOps.accH 0 rfl hE rfl ok95 hh rfl rfl ?_ ; intro s hh)
            | (refine kOps ?_; first | (refine LOps.nil ?_) | (refine LOps.ev tT_ok rfl ?_) | (refine kLen ?_; first | (refine LOps.ans (AnsL.lenM tT_ok rfl rfl rfl) ?_)) | (refine kBin ?_; first | (refine LOps.ans (AnsL.add rfl rfl ?_) ?_; (focus (constructor <;> omega)))) | (refine kIdx ?_; first | (refine LOps.ans (AnsL.idx tT_ok rfl rfl rfl rfl rfl hgb rfl rfl) ?_)))
            | (refine kWL ?_; first | (refine WL.seq ?_) | (refine WL.region (by kernel_rfl) ?_) | (refine WL.block ?_) | (refine WL.skip ?_) | (refine kCond ?_; first | (refine WL.condT' rfl ?_ ?_; (focus (first | (simp only [decide_eq_true_eq, decide_eq_false_iff_not, Bool.not_eq_true', Bool.not_eq_false', Int.ofNat_lt, Int.ofNat_le, Int.ofNat_inj, not_true_eq_false, not_false_eq_true]; omega))))))
            | (refine lthen_n ?_)
            | (refine lblock_n ?_)
          refine lbackH.of (j + 1) ?_ hh ?_ hlt2 (by omega)
          · try dsimp only
            rw [hX]
            repeat' first | exact SubL.nil | (refine SubL.mk rfl ?_ ?_) | rfl | (simp; omega)
          · try dsimp only
            rw [hX]
            (repeat' first | (exact Sel.refl _) | (refine Sel.cons 0 rfl rfl ?_) | (refine Sel.cons 1 rfl rfl ?_) | (refine Sel.cons 2 rfl rfl ?_) | (refine Sel.cons 3 rfl rfl ?_) | (refine Sel.drop ?_))
        · rw [List.take_of_length_le hge2] at hh ⊢
          repeat' first
            | (refine kOps ?_; first | (refine LOps.nil ?_) | (refine LOps.ev tT_ok rfl ?_) | (refine kLen ?_; first | (refine LOps.ans (AnsL.lenM tT_ok rfl rfl rfl) ?_)) | (refine kBin ?_; first | (refine LOps.ans (AnsL.add rfl rfl ?_) ?_; (focus (constructor <;> omega)))))
            | (refine kWL ?_; first | (refine WL.seq ?_) | (refine WL.region (by kernel_rfl) ?_) | (refine WL.exit ?_) | (refine kCond ?_; first | (refine WL.condF' rfl ?_ ?_; (focus (first | (simp only [decide_eq_true_eq, decide_eq_false_iff_not, Bool.not_eq_true', Bool.not_eq_false', Int.ofNat_lt, Int.ofNat_le, Int.ofNat_inj, not_true_eq_false, not_false_eq_true]; omega))))))
            | (refine lthen_n ?_)
            | (refine lthen_e ?_)
            | (refine lblock_n ?_)
            | (refine lblock_e ?_)
            | (refine lbackH_e ?_)
          refine lbackH.of (i + 1) ?_ hh ?_ hlt (by omega)
          · try dsimp only
            rw [hY]
            repeat' first | exact SubL.nil | (refine SubL.mk rfl ?_ ?_) | rfl | (simp; omega)
          · try dsimp only
            rw [hY]
            (repeat' first | (exact Sel.refl _) | (refine Sel.cons 0 rfl rfl ?_) | (refine Sel.cons 1 rfl rfl ?_) | (refine Sel.cons 2 rfl rfl ?_) | (refine Sel.cons 3 rfl rfl ?_) | (refine Sel.drop ?_))
      · rw [List.take_of_length_le hge] at hh ⊢
        repeat' first
          | (refine kOps ?_; first | (refine LOps.nil ?_) | (refine LOps.ev tT_ok rfl ?_) | (refine kLoad ?_; first | (refine LOps.ans (AnsL.loadH tT_ok 1 hh rfl rfl rfl rfl) ?_)) | (refine kLen ?_; first | (refine LOps.ans (AnsL.lenM tT_ok rfl rfl rfl) ?_)))
          | (refine kWL ?_; first | (refine WL.seq ?_) | (refine WL.region (by kernel_rfl) ?_) | (refine WL.exit ?_) | (refine WL.ret ?_) | (refine kCond ?_; first | (refine WL.condF' rfl ?_ ?_; (focus (first | (simp only [decide_eq_true_eq, decide_eq_false_iff_not, Bool.not_eq_true', Bool.not_eq_false', Int.ofNat_lt, Int.ofNat_le, Int.ofNat_inj, not_true_eq_false, not_false_eq_true]; omega))))))
          | (refine lthen_n ?_)
          | (refine lthen_e ?_)
          | (refine lblock_e ?_)
          | (refine lbackH_e ?_)
          | (refine LPost.r1 (r := .tmp 4) (.inl rfl) (Res1.tmp rfl) ?_)
        have hF : us ++ [(⟨e.up, e.pos, 0⟩ : Bind)] ++ kk ++ e.sub.flatMap (PE.colP varAt (u + 1)) = us ++ ([(⟨e.up, e.pos, 0⟩ : Bind)] ++ (kk ++ e.sub.flatMap (PE.colP varAt (u + 1)))) := by simp only [List.append_assoc]
        rw [hF] at hh ⊢
        exact ⟨_, rfl, rfl, hh.sel (by (repeat' first | (exact Sel.refl _) | (refine Sel.cons 0 rfl rfl ?_) | (refine Sel.cons 1 rfl rfl ?_) | (refine Sel.cons 2 rfl rfl ?_) | (refine Sel.cons 3 rfl rfl ?_) | (refine Sel.drop ?_)))⟩
    · have hfa : varAt u e.kind e.up e.pos = [] := by simp [varAt, hk]
      rw [hfa] at h2 ⊢
      simp only [List.length_nil] at h2
      repeat' first
        | (refine kBox ?_ ; first | (refine LOps.boxH hh rfl rfl ?_ ; intro s n hh))
        | (refine kOps ?_; first | (refine LOps.nil ?_) | (refine LOps.ev tT_ok rfl ?_) | (refine kLoad ?_; first | (refine LOps.ans (AnsL.loadH tT_ok 0 hh rfl rfl rfl rfl) ?_)))
        | (refine kWL ?_; first | (refine WL.seq ?_) | (refine WL.region (by kernel_rfl) ?_) | (refine WL.block ?_) | (refine WL.skip ?_) | (refine kCond ?_; first | (refine WL.condF' rfl ?_ ?_; (focus (first | (exact decide_eq_false (by assumption)))))))
        | (refine lthen_n ?_)
      have hY0 : us.map Bind.toV = (us ++ ([] : List Bind) ++ (e.kids.take 0).flatMap (PE.col varAt u)).map Bind.toV := by simp [Bind.toV]
      rw [hY0] at hh ⊢
      refine WL.loopH (fun i : Nat => e.kids.length - i) (fun i => [(1, .sl id ((us ++ ([] : List Bind) ++ (e.kids.take i).flatMap (PE.col varAt u)).map Bind.toV)), (2, .ptr n 0), (5, .int .i64 (i : Int))])
        (fun i => .acc id 3 ((us ++ ([] : List Bind) ++ (e.kids.take i).flatMap (PE.col varAt u)).map Bind.toV) ((us ++ ([] : List Bind) ++ (e.kids.take i).flatMap (PE.col varAt u)).map Bind.toV) :: .cell n e.v.cells :: H) (fun i => i ≤ e.kids.length) 0 (Nat.zero_le _) ⟨rfl, rfl, rfl, trivial⟩ hh ?_ (fun i s hi hh => ?_)
      · (repeat' first | (exact Sel.refl _) | (refine Sel.cons 0 rfl rfl ?_) | (refine Sel.cons 1 rfl rfl ?_) | (refine Sel.cons 2 rfl rfl ?_) | (refine Sel.cons 3 rfl rfl ?_) | (refine Sel.drop ?_))
      try dsimp only at hi hh ⊢
      have hl := flatMap_take_len (PE.col varAt u) e.kids i
      rcases Nat.lt_or_ge i e.kids.length with hlt | hge
      · have hl2 := flatMap_take_len (PE.col varAt u) e.kids (i + 1)
        have hga : (e.kids.map PE.toV)[i]? = some (PE.v e.kids[i]) := by rw [List.getElem?_map, List.getElem?_eq_getElem hlt]; simp only [Option.map_some, PE.toV_eq]
        have ht := flatMap_take (PE.col varAt u) hlt
        have hE := ih1 e.kids[i] (List.getElem_mem hlt) (Nat.le_trans (PE.wgt_kid (List.getElem_mem hlt)) hw) u (us ++ ([] : List Bind) ++ (e.kids.take i).flatMap (PE.col varAt u)) (by rw [ht, List.length_append] at hl2; simp only [List.length_append, List.length_cons, List.length_nil]; omega)
        have hY : us ++ ([] : List Bind) ++ (e.kids.take (i + 1)).flatMap (PE.col varAt u) = us ++ ([] : List Bind) ++ (e.kids.take i).flatMap (PE.col varAt u) ++ PE.col varAt u e.kids[i] := by rw [ht]; simp only [List.append_assoc]
        generalize e.kids[i] = x at hga hE hY
        generalize us ++ ([] : List Bind) ++ (e.kids.take i).flatMap (PE.col varAt u) = ys at hE hY hh ⊢
        repeat' first
          | (refine kCallN 95 ?_ ; refine LOps.accH 0 rfl hE rfl ok95 hh rfl rfl ?_ ; intro s hh)
          | (refine kOps ?_; first | (refine LOps.nil ?_) | (refine LOps.ev tT_ok rfl ?_) | (refine kLoad ?_; first | (refine LOps.ans (AnsL.loadH tT_ok 1 hh rfl rfl rfl rfl) ?_)) | (refine kLen ?_; first | (refine LOps.ans (AnsL.lenM tT_ok rfl rfl rfl) ?_)) | (refine kBin ?_; first | (refine LOps.ans (AnsL.add rfl rfl ?_) ?_; (focus (constructor <;> omega)))) | (refine kIdx ?_; first | (refine LOps.ans (AnsL.idx tT_ok rfl rfl rfl rfl rfl hga rfl rfl) ?_)))
          | (refine kWL ?_; first | (refine WL.seq ?_) | (refine WL.region (by kernel_rfl) ?_) | (refine WL.block ?_) | (refine WL.skip ?_) | (refine kCond ?_; first | (refine WL.condT' rfl ?_ ?_; (focus (first | (simp only [decide_eq_true_eq, decide_eq_false_iff_not, Bool.not_eq_true', Bool.not_eq_false', Int.ofNat_lt, Int.ofNat_le, Int.ofNat_inj, not_true_eq_false, not_false_eq_true]; omega))))))
          | (refine lthen_n ?_)
          | (refine lblock_n ?_)
        refine lbackH.of (i + 1) ?_ hh ?_ hlt (by omega)
        · try dsimp only
          rw [hY]
          repeat' first | exact SubL.nil | (refine SubL.mk rfl ?_ ?_) | rfl | (simp; omega)
        · try dsimp only
          rw [hY]
          (repeat' first | (exact Sel.refl _) | (refine Sel.cons 0 rfl rfl ?_) | (refine Sel.cons 1 rfl rfl ?_) | (refine Sel.cons 2 rfl rfl ?_) | (refine Sel.cons 3 rfl rfl ?_) | (refine Sel.drop ?_))
      rw [List.take_of_length_le hge] at hl hh ⊢
      generalize e.kids.flatMap (PE.col varAt u) = kk at hl hh h2 ⊢
      repeat' first
        | (refine kOps ?_; first | (refine LOps.nil ?_) | (refine LOps.ev tT_ok rfl ?_) | (refine kLoad ?_; first | (refine LOps.ans (AnsL.loadH tT_ok 1 hh rfl rfl rfl rfl) ?_)) | (refine kLen ?_; first | (refine LOps.ans (AnsL.lenM tT_ok rfl rfl rfl) ?_)))
        | (refine kWL ?_; first | (refine WL.seq ?_) | (refine WL.region (by kernel_rfl) ?_) | (refine WL.block ?_) | (refine WL.exit ?_) | (refine kCond ?_; first | (refine WL.condF' rfl ?_ ?_; (focus (first | (simp only [decide_eq_true_eq, decide_eq_false_iff_not, Bool.not_eq_true', Bool.not_eq_false', Int.ofNat_lt, Int.ofNat_le, Int.ofNat_inj, not_true_eq_false, not_false_eq_true]; omega))))))
        | (refine lthen_n ?_)
        | (refine lthen_e ?_)
        | (refine lblock_e ?_)
        | (refine lbackH_e ?_)
      have hZ0 : us ++ ([] : List Bind) ++ kk = us ++ ([] : List Bind) ++ kk ++ (e.sub.take 0).flatMap (PE.colP varAt (u + 1)) := by simp
      rw [hZ0] at hh ⊢
      refine WL.loopH (fun i : Nat => e.sub.length - i) (fun i => [(1, .sl id ((us ++ ([] : List Bind) ++ kk ++ (e.sub.take i).flatMap (PE.colP varAt (u + 1))).map Bind.toV)), (2, .ptr n 0), (6, .int .i64 (i : Int))])
        (fun i => .acc id 3 ((us ++ ([] : List Bind) ++ kk ++ (e.sub.take i).flatMap (PE.colP varAt (u + 1))).map Bind.toV) ((us ++ ([] : List Bind) ++ kk ++ (e.sub.take i).flatMap (PE.colP varAt (u + 1))).map Bind.toV) :: .cell n e.v.cells :: H) (fun i => i ≤ e.sub.length) 0 (Nat.zero_le _) ⟨rfl, rfl, rfl, trivial⟩ hh ?_ (fun i s hi hh => ?_)
      · (repeat' first | (exact Sel.refl _) | (refine Sel.cons 0 rfl rfl ?_) | (refine Sel.cons 1 rfl rfl ?_) | (refine Sel.cons 2 rfl rfl ?_) | (refine Sel.cons 3 rfl rfl ?_) | (refine Sel.drop ?_))
      try dsimp only at hi hh ⊢
      have hm := flatMap_take_len (PE.colP varAt (u + 1)) e.sub i
      rcases Nat.lt_or_ge i e.sub.length with hlt | hge
      · have hm2 := flatMap_take_len (PE.colP varAt (u + 1)) e.sub (i + 1)
        have hga : (e.sub.map PE.planV)[i]? = some (PL.v e.sub[i]) := by rw [List.getElem?_map, List.getElem?_eq_getElem hlt]; simp only [Option.map_some, PE.planV_eq]
        have hpw := PE.wgt_sub (List.getElem_mem hlt)
        have hP := fun t => specParts_v e.sub[i] (Nat.le_trans hpw hw) t
        have hpl := PL.parts_len e.sub[i]
        have hI : ∀ k ∈ e.sub[i].parts, ∀ ys : List Bind, ys.length + (k.col varAt (u + 1)).length ≤ 4000000 → AppC Try.prog 95 (fun o => [k.v, o]) 3 (ys.map Bind.toV) ((ys ++ k.col varAt (u + 1)).map Bind.toV) := fun k hk ys hy => by
          have h6 := sumW_one (fun k : PE => wgt k.v) e.sub[i].parts
          have h7 := PL.parts_w e.sub[i]
          have h8 : 1 + wgt k.v ≤ sumW (fun k => 1 + wgt k.v) e.sub[i].parts := by
            obtain ⟨j, hj, rfl⟩ := List.getElem_of_mem hk
            exact sumW_mem (f := fun k : PE => 1 + wgt k.v) hj
          exact ih2 _ (List.getElem_mem hlt) k hk (by omega) (u + 1) ys hy
        have ht := flatMap_take (PE.colP varAt (u + 1)) hlt
        rw [PE.colP_eq] at ht
        rw [ht, List.length_append] at hm2
        have hzl : (us ++ ([] : List Bind) ++ kk ++ (e.sub.take i).flatMap (PE.colP varAt (u + 1))).length + (e.sub[i].parts.flatMap (PE.col varAt (u + 1))).length ≤ 4000000 := by simp only [List.length_append, List.length_cons, List.length_nil]; omega
        have hY : us ++ ([] : List Bind) ++ kk ++ (e.sub.take (i + 1)).flatMap (PE.colP varAt (u + 1)) = us ++ ([] : List Bind) ++ kk ++ (e.sub.take i).flatMap (PE.colP varAt (u + 1)) ++ e.sub[i].parts.flatMap (PE.col varAt (u + 1)) := by rw [ht]; simp only [List.append_assoc]
        generalize e.sub[i] = x at hga hP hI hpl hpw hzl hY
        generalize x.parts = ps at hP hI hpl hzl hY
        generalize us ++ ([] : List Bind) ++ kk ++ (e.sub.take i).flatMap (PE.colP varAt (u + 1)) = zs at hY hzl hh ⊢
        repeat' first
          | (refine kOps ?_; first | (refine LOps.nil ?_) | (refine LOps.ev tT_ok rfl ?_) | (refine kLoad ?_; first | (refine LOps.ans (AnsL.loadH tT_ok 1 hh rfl rfl rfl rfl) ?_)) | (refine kLen ?_; first | (refine LOps.ans (AnsL.lenM tT_ok rfl rfl rfl) ?_)) | (refine kIdx ?_; first | (refine LOps.ans (AnsL.idx tT_ok rfl rfl rfl rfl rfl hga rfl rfl) ?_)) | (refine kCallN 94 ?_; first | (refine LOps.ans (AnsL.callP rfl rfl rfl (ok94) (hP _)) ?_)))
          | (refine kWL ?_; first | (refine WL.seq ?_) | (refine WL.region (by kernel_rfl) ?_) | (refine WL.block ?_) | (refine WL.skip ?_) | (refine kCond ?_; first | (refine WL.condT' rfl ?_ ?_; (focus (first | (simp only [decide_eq_true_eq, decide_eq_false_iff_not, Bool.not_eq_true', Bool.not_eq_false', Int.ofNat_lt, Int.ofNat_le, Int.ofNat_inj, not_true_eq_false, not_false_eq_true]; omega))))))
          | (refine lthen_n ?_)
        have hW0 : zs.map Bind.toV = (zs ++ (ps.take 0).flatMap (PE.col varAt (u + 1))).map Bind.toV := by simp
        rw [hW0] at hh ⊢
        refine WL.loopH (fun j : Nat => ps.length - j) (fun j => [(1, .sl id ((zs ++ (ps.take j).flatMap (PE.col varAt (u + 1))).map Bind.toV)), (2, .ptr n 0), (6, .int .i64 (i : Int)), (7, .sl 0 (ps.map PE.toV)), (8, .int .i64 (j : Int))])
          (fun j => .acc id 3 ((zs ++ (ps.take j).flatMap (PE.col varAt (u + 1))).map Bind.toV) ((zs ++ (ps.take j).flatMap (PE.col varAt (u + 1))).map Bind.toV) :: .cell n e.v.cells :: H) (fun j => j ≤ ps.length) 0 (Nat.zero_le _) ⟨rfl, rfl, rfl, rfl, rfl, trivial⟩ hh ?_ (fun j s hj hh => ?_)
        · (repeat' first | (exact Sel.refl _) | (refine Sel.cons 0 rfl rfl ?_) | (refine Sel.cons 1 rfl rfl ?_) | (refine Sel.cons 2 rfl rfl ?_) | (refine Sel.cons 3 rfl rfl ?_) | (refine Sel.drop ?_))
        try dsimp only at hj hh ⊢
        have hn := flatMap_take_len (PE.col varAt (u + 1)) ps j
        rcases Nat.lt_or_ge j ps.length with hlt2 | hge2
        · have hn2 := flatMap_take_len (PE.col varAt (u + 1)) ps (j + 1)
          have hgb : (ps.map PE.toV)[j]? = some (PE.v ps[j]) := by rw [List.getElem?_map, List.getElem?_eq_getElem hlt2]; simp only [Option.map_some, PE.toV_eq]
          have ht2 := flatMap_take (PE.col varAt (u + 1)) hlt2
          rw [ht2, List.length_append] at hn2
          have hE := hI ps[j] (List.getElem_mem hlt2) (zs ++ (ps.take j).flatMap (PE.col varAt (u + 1))) (by simp only [List.length_append]; omega)
          have hX : zs ++ (ps.take (j + 1)).flatMap (PE.col varAt (u + 1)) = zs ++ (ps.take j).flatMap (PE.col varAt (u + 1)) ++ PE.col varAt (u + 1) ps[j] := by rw [ht2]; simp only [List.append_assoc]
          generalize ps[j] = y at hgb hE hX
          generalize zs ++ (ps.take j).flatMap (PE.col varAt (u + 1)) = ys at hE hX hh ⊢
          repeat' first
            | (refine kCallN 95 ?_ ; refine LOps.accH 0 rfl hE rfl ok95 hh rfl rfl ?_ ; intro s hh)
            | (refine kOps ?_; first | (refine LOps.nil ?_) | (refine LOps.ev tT_ok rfl ?_) | (refine kLen ?_; first | (refine LOps.ans (AnsL.lenM tT_ok rfl rfl rfl) ?_)) | (refine kBin ?_; first | (refine LOps.ans (AnsL.add rfl rfl ?_) ?_; (focus (constructor <;> omega)))) | (refine kIdx ?_; first | (refine LOps.ans (AnsL.idx tT_ok rfl rfl rfl rfl rfl hgb rfl rfl) ?_)))
            | (refine kWL ?_; first | (refine WL.seq ?_) | (refine WL.region (by kernel_rfl) ?_) | (refine WL.block ?_) | (refine WL.skip ?_) | (refine kCond ?_; first | (refine WL.condT' rfl ?_ ?_; (focus (first | (simp only [decide_eq_true_eq, decide_eq_false_iff_not, Bool.not_eq_true', Bool.not_eq_false', Int.ofNat_lt, Int.ofNat_le, Int.ofNat_inj, not_true_eq_false, not_false_eq_true]; omega))))))
            | (refine lthen_n ?_)
            | (refine lblock_n ?_)
          refine lbackH.of (j + 1) ?_ hh ?_ hlt2 (by omega)
          · try dsimp only
            rw [hX]
            repeat' first | exact SubL.nil | (refine SubL.mk rfl ?_ ?_) | rfl | (simp; omega)
          · try dsimp only
            rw [hX]
            (repeat' first | (exact Sel.refl _) | (refine Sel.cons 0 rfl rfl ?_) | (refine Sel.cons 1 rfl rfl ?_) | (refine Sel.cons 2 rfl rfl ?_) | (refine Sel.cons 3 rfl rfl ?_) | (refine Sel.drop ?_))
        · rw [List.take_of_length_le hge2] at hh ⊢
          repeat' first
            | (refine kOps ?_; first | (refine LOps.nil ?_) | (refine LOps.ev tT_ok rfl ?_) | (refine kLen ?_; first | (refine LOps.ans (AnsL.lenM tT_ok rfl rfl rfl) ?_)) | (refine kBin ?_; first | (refine LOps.ans (AnsL.add rfl rfl ?_) ?_; (focus (constructor <;> omega)))))
            | (refine kWL ?_; first | (refine WL.seq ?_) | (refine WL.region (by kernel_rfl) ?_) | (refine WL.exit ?_) | (refine kCond ?_; first | (refine WL.condF' rfl ?_ ?_; (focus (first | (simp only [decide_eq_true_eq, decide_eq_false_iff_not, Bool.not_eq_true', Bool.not_eq_false', Int.ofNat_lt, Int.ofNat_le, Int.ofNat_inj, not_true_eq_false, not_false_eq_true]; omega))))))
            | (refine lthen_n ?_)
            | (refine lthen_e ?_)
            | (refine lblock_n ?_)
            | (refine lblock_e ?_)
            | (refine lbackH_e ?_)
          refine lbackH.of (i + 1) ?_ hh ?_ hlt (by omega)
          · try dsimp only
            rw [hY]
            repeat' first | exact SubL.nil | (refine SubL.mk rfl ?_ ?_) | rfl | (simp; omega)
          · try dsimp only
            rw [hY]
            (repeat' first | (exact Sel.refl _) | (refine Sel.cons 0 rfl rfl ?_) | (refine Sel.cons 1 rfl rfl ?_) | (refine Sel.cons 2 rfl rfl ?_) | (refine Sel.cons 3 rfl rfl ?_) | (refine Sel.drop ?_))
      · rw [List.take_of_length_le hge] at hh ⊢
        repeat' first
          | (refine kOps ?_; first | (refine LOps.nil ?_) | (refine LOps.ev tT_ok rfl ?_) | (refine kLoad ?_; first | (refine LOps.ans (AnsL.loadH tT_ok 1 hh rfl rfl rfl rfl) ?_)) | (refine kLen ?_; first | (refine LOps.ans (AnsL.lenM tT_ok rfl rfl rfl) ?_)))
          | (refine kWL ?_; first | (refine WL.seq ?_) | (refine WL.region (by kernel_rfl) ?_) | (refine WL.exit ?_) | (refine WL.ret ?_) | (refine kCond ?_; first | (refine WL.condF' rfl ?_ ?_; (focus (first | (simp only [decide_eq_true_eq, decide_eq_false_iff_not, Bool.not_eq_true', Bool.not_eq_false', Int.ofNat_lt, Int.ofNat_le, Int.ofNat_inj, not_true_eq_false, not_false_eq_true]; omega))))))
          | (refine lthen_n ?_)
          | (refine lthen_e ?_)
          | (refine lblock_e ?_)
          | (refine lbackH_e ?_)
          | (refine LPost.r1 (r := .tmp 4) (.inl rfl) (Res1.tmp rfl) ?_)
        have hF : us ++ ([] : List Bind) ++ kk ++ e.sub.flatMap (PE.colP varAt (u + 1)) = us ++ (([] : List Bind) ++ (kk ++ e.sub.flatMap (PE.colP varAt (u + 1)))) := by simp only [List.append_assoc]
        rw [hF] at hh ⊢
        exact ⟨_, rfl, rfl, hh.sel (by (repeat' first | (exact Sel.refl _) | (refine Sel.cons 0 rfl rfl ?_) | (refine Sel.cons 1 rfl rfl ?_) | (refine Sel.cons 2 rfl rfl ?_) | (refine Sel.cons 3 rfl rfl ?_) | (refine Sel.drop ?_)))⟩

/-- What both answer. -/

def VarC (P : Program) (g : FuncId) (u : Int) (l : List PE) : Prop := ∀ s : S, VCalls P g [.sl 0 (l.map PE.toV)] s (fun v t => Own2 (binds (l.flatMap (PE.col varAt u))) v t)
theorem VarC.pure {P : Program} {g : FuncId} {u : Int} {l : List PE} (h : VarC P g u l) (s : S) : VCalls P g [.sl 0 (l.map PE.toV)] s (fun v s' => v = .sl 0 ((l.flatMap (PE.col varAt u)).map Bind.toV) ∧ s' = s) :=
  VCalls.pureOf (plainL_cons (plain_PExprS l) rfl) (plain_BindS _) (fun t => h t) s
theorem vars_len (u : Int) (l : List PE) : (l.flatMap (PE.col varAt u)).length ≤ sumW (fun k => 1 + wgt k.v) l := by
  rw [flatMap_len]
  exact sumW_mono fun k _ => PE.col_len varAt varAt_len k u
set_option maxHeartbeats 4000000 in
theorem implVars_r (u : Int) (l : List PE) (hl : sumW (fun k => 1 + wgt k.v) l ≤ 1048576) (ih : ∀ e ∈ l, VarC Try.prog 101 u e.kids ∧ ∀ p ∈ e.sub, VarC Try.prog 101 (u + 1) p.parts) : VarC Try.prog 101 u l := by
  intro s
  have hlw := sumW_len (fun k : PE => wgt k.v) l
  have hvl := vars_len u l
  refine LCalls.body Try.func101 rfl (by kernel_rfl) ?_
  repeat' first
    | (refine kOps ?_; first | (refine LOps.nil ?_) | (refine LOps.ev tT_ok rfl ?_) | (refine kBsl ?_; first | (refine LOps.bsl0 tT_ok rfl rfl rfl rfl rfl ?_)) | (refine kLen ?_; first | (refine LOps.ans (AnsL.lenM tT_ok rfl rfl rfl) ?_)))
    | (refine kWL ?_; first | (refine WL.seq ?_) | (refine WL.region (by kernel_rfl) ?_) | (refine WL.block ?_))
    | (refine lthen_n ?_)
  refine WL.zfam (t := 3) 3 rfl rfl rfl rfl ?_
  refine WL.loopD (fun i : Nat => l.length - i) (fun i => [(3, .sl (s.next + 0) (((l.take i).flatMap (PE.col varAt u)).map Bind.toV)), (9, .sl 0 (l.map PE.toV)), (10, .int .i64 l.length), (11, .int .i64 (i : Int))])
    (fun i => [.fam ((l.take i).flatMap (PE.col varAt u)).length 3]) (fun i => i ≤ l.length) 1 0 (by simp) (fun _ => rfl) ⟨by simp [lk]; try rfl, rfl, rfl, rfl, trivial⟩ (by simp; try rfl) (fun i hi => ?_) (fun i hi => ?_)
  · generalize (l.take i).flatMap (PE.col varAt u) = us
    simp [UnderK, UnderX, Own.under, V.under, V.underL, underLA]
  have hl1 := flatMap_take_len (PE.col varAt u) l i
  rcases Nat.lt_or_ge i l.length with hlt | hge
  · have hl2 := flatMap_take_len (PE.col varAt u) l (i + 1)
    have hga : (l.map PE.toV)[i]? = some (PE.v l[i]) := by rw [List.getElem?_map, List.getElem?_eq_getElem hlt]; simp only [Option.map_some, PE.toV_eq]
    have hI := ih l[i] (List.getElem_mem hlt)
    have hxw : wgt l[i].v ≤ 1048576 := by
      have := sumW_mem (f := fun k : PE => 1 + wgt k.v) hlt
      omega
    have ht := flatMap_take (PE.col varAt u) hlt
    rw [ht, List.length_append] at hl2
    have hlx : (PE.col varAt u l[i]).length = (PE.col varAt u l[i]).length := rfl
    rw [PE.col_eq] at ht hl2 hlx
    simp only [List.length_append] at hl2 hlx
    generalize l[i] = x at hga hI hxw ht hl2 hlx
    have hsl0 := wgt_len PE.planV x.sub
    have hkl0 := wgt_len PE.toV x.kids
    have e1 := PE.wgt_eq2 x
    have hK := fun t => hI.1.pure t
    have hS := hI.2
    have hSl : (x.sub.flatMap (PE.colP varAt (u + 1))).length = (x.sub.flatMap (PE.colP varAt (u + 1))).length := rfl
    generalize (l.take i).flatMap (PE.col varAt u) = us at hl1 hl2 ht ⊢
    generalize x.kids.flatMap (PE.col varAt u) = kk at hK hl2 ht hlx
    by_cases hk : x.kind = 2
    · have hfa : varAt u x.kind x.up x.pos = [(⟨x.up, x.pos, 0⟩ : Bind)] := by simp [varAt, hk]
      rw [hfa] at ht hl2
      simp only [List.length_cons, List.length_nil] at hl2
      repeat' first
        | (refine kOps ?_; first | (refine LOps.nil ?_) | (refine kStore ?_; refine LOps.storeP tT_ok rfl rfl rfl rfl rfl rfl rfl rfl rfl ?_) | (refine LOps.ev tT_ok rfl ?_) | (refine kAlloc ?_; refine LOps.alloc tT_ok rfl rfl rfl rfl ?_) | (refine kBsl ?_; first | (refine LOps.bsl tT_ok rfl rfl rfl rfl rfl rfl rfl rfl rfl rfl rfl ?_)) | (refine kApp ?_; first | (refine LOps.app tT_ok rfl rfl rfl rfl rfl rfl rfl rfl rfl rfl rfl ?_ ?_ (AppB.of ?_ rfl) ?_; (focus (first | rfl | (simp <;> fail))); (focus (first | exact Elems.of rfl | exact Elems.map fun _ => rfl | exact PE.els _ (fun _ => rfl) _)); (focus (first | omega | (simp; omega))))) | (refine kLoad ?_; first | (refine LOps.ans (AnsL.loadP tT_ok rfl rfl rfl rfl) ?_)) | (refine kLen ?_; first | (refine LOps.ans (AnsL.lenM tT_ok rfl rfl rfl) ?_)) | (refine kIdx ?_; first | (refine LOps.ans (AnsL.idx tT_ok rfl rfl rfl rfl rfl hga rfl rfl) ?_)) | (refine kCallN 101 ?_; first | (refine LOps.ans (AnsL.callP rfl rfl rfl (ok101) (hK _)) ?_)))
        | (refine kWL ?_; first | (refine WL.seq ?_) | (refine WL.region (by kernel_rfl) ?_) | (refine WL.block ?_) | (refine WL.skip ?_) | (refine kCond ?_; first | (refine WL.condT' rfl ?_ ?_; (focus (first | (exact decide_eq_true (by assumption)) | (simp only [decide_eq_true_eq, decide_eq_false_iff_not, Bool.not_eq_true', Bool.not_eq_false', Int.ofNat_lt, Int.ofNat_le, Int.ofNat_inj, not_true_eq_false, not_false_eq_true]; omega))))))
        | (refine lthen_n ?_)
      refine WL.loopD (fun j : Nat => x.sub.length - j) (fun j => [(3, .sl (s.next + 0) ((us ++ [(⟨x.up, x.pos, 0⟩ : Bind)] ++ kk ++ (x.sub.take j).flatMap (PE.colP varAt (u + 1))).map Bind.toV)), (9, .sl 0 (l.map PE.toV)), (10, .int .i64 l.length), (11, .int .i64 (i : Int)), (32, .sl 0 (x.sub.map PE.planV)), (33, .int .i64 x.sub.length), (34, .int .i64 (j : Int))])
        (fun j => .fam (us ++ [(⟨x.up, x.pos, 0⟩ : Bind)] ++ kk ++ (x.sub.take j).flatMap (PE.colP varAt (u + 1))).length 3 :: .var x.v.cells :: [.fam 1 3]) (fun j => j ≤ x.sub.length) 3 0 (by simp) (fun _ => rfl) ⟨by simp [lk]; try rfl, rfl, rfl, rfl, rfl, rfl, rfl, trivial⟩ (by simp [PE.v, V.cells]; try omega) (fun j hj => ?_) (fun j hj => ?_)
      · generalize (x.sub.take j).flatMap (PE.colP varAt (u + 1)) = vs
        simp [UnderK, UnderX, Own.under, V.under, V.underL, PE.v, V.cells, underLA]
      have hn := flatMap_take_len (PE.colP varAt (u + 1)) x.sub j
      rcases Nat.lt_or_ge j x.sub.length with hlt2 | hge2
      · have hn2 := flatMap_take_len (PE.colP varAt (u + 1)) x.sub (j + 1)
        have hgb : (x.sub.map PE.planV)[j]? = some (PL.v x.sub[j]) := by rw [List.getElem?_map, List.getElem?_eq_getElem hlt2]; simp only [Option.map_some, PE.planV_eq]
        have ht2 := flatMap_take (PE.colP varAt (u + 1)) hlt2
        rw [ht2, List.length_append] at hn2
        have hP := fun t => implParts_v x.sub[j] (Nat.le_trans (PE.wgt_sub (List.getElem_mem hlt2)) hxw) t
        have hV := fun t => (hS x.sub[j] (List.getElem_mem hlt2)).pure t
        rw [PE.colP_eq] at ht2 hn2
        generalize x.sub[j] = y at hgb hP hV ht2 hn2
        generalize y.parts = ps at hP hV ht2 hn2
        generalize (x.sub.take j).flatMap (PE.colP varAt (u + 1)) = vs at hn hn2 ht2 ⊢
        generalize ps.flatMap (PE.col varAt (u + 1)) = ws at hV hn2 ht2
        repeat' first
          | (refine kOps ?_; first | (refine LOps.nil ?_) | (refine kStore ?_; refine LOps.storeP tT_ok rfl rfl rfl rfl rfl rfl rfl rfl rfl ?_) | (refine LOps.ev tT_ok rfl ?_) | (refine kAlloc ?_; refine LOps.alloc tT_ok rfl rfl rfl rfl ?_) | (refine kApp ?_; first | (refine LOps.app tT_ok rfl rfl rfl rfl rfl rfl rfl rfl rfl rfl rfl ?_ ?_ (AppB.of ?_ rfl) ?_; (focus (first | rfl | (simp <;> fail))); (focus (first | exact Elems.of rfl | exact Elems.map fun _ => rfl | exact PE.els _ (fun _ => rfl) _)); (focus (first | omega | (simp; omega))))) | (refine kLoad ?_; first | (refine LOps.ans (AnsL.loadP tT_ok rfl rfl rfl rfl) ?_)) | (refine kBin ?_; first | (refine LOps.ans (AnsL.add rfl rfl ?_) ?_; (focus (constructor <;> omega)))) | (refine kIdx ?_; first | (refine LOps.ans (AnsL.idx tT_ok rfl rfl rfl rfl rfl hgb rfl rfl) ?_)) | (refine kCallN 101 ?_; first | (refine LOps.ans (AnsL.callP rfl rfl rfl (ok101) (hV _)) ?_)) | (refine kCallN 102 ?_; first | (refine LOps.ans (AnsL.callP rfl rfl rfl (ok102) (hP _)) ?_)))
          | (refine kWL ?_; first | (refine WL.seq ?_) | (refine WL.region (by kernel_rfl) ?_) | (refine WL.block ?_) | (refine WL.skip ?_) | (refine kCond ?_; first | (refine WL.condT' rfl ?_ ?_; (focus (first | (simp only [decide_eq_true_eq, decide_eq_false_iff_not, Bool.not_eq_true', Bool.not_eq_false', Int.ofNat_lt, Int.ofNat_le, Int.ofNat_inj, not_true_eq_false, not_false_eq_true]; omega))))))
          | (refine lthen_n ?_)
          | (refine lblock_n ?_)
        refine lbackD.of (j + 1) ?_ ?_ ?_ ?_
        · omega
        · omega
        · rw [ht2]
          exact ⟨by simp [lk], rfl, rfl, rfl, rfl, rfl, rfl, trivial⟩
        · rw [ht2]
          (simp [PE.v, PL.v, V.cells] <;> omega)
      · rw [List.take_of_length_le hge2]
        repeat' first
          | (refine kOps ?_; first | (refine LOps.nil ?_) | (refine LOps.ev tT_ok rfl ?_) | (refine kBin ?_; first | (refine LOps.ans (AnsL.add rfl rfl ?_) ?_; (focus (constructor <;> omega)))))
          | (refine kWL ?_; first | (refine WL.seq ?_) | (refine WL.region (by kernel_rfl) ?_) | (refine WL.exit ?_) | (refine kCond ?_; first | (refine WL.condF' rfl ?_ ?_; (focus (first | (simp only [decide_eq_true_eq, decide_eq_false_iff_not, Bool.not_eq_true', Bool.not_eq_false', Int.ofNat_lt, Int.ofNat_le, Int.ofNat_inj, not_true_eq_false, not_false_eq_true]; omega))))))
          | (refine lthen_n ?_)
          | (refine lthen_e ?_)
          | (refine lblock_n ?_)
          | (refine lblock_e ?_)
          | (refine lbackD_e ?_)
        refine lbackD.of (i + 1) ?_ ?_ ?_ ?_
        · omega
        · omega
        · rw [ht]
          exact ⟨by simp [lk], rfl, rfl, rfl, trivial⟩
        · rw [ht]
          (simp [PE.v, V.cells] <;> omega)
    · have hfa : varAt u x.kind x.up x.pos = ([] : List Bind) := by simp [varAt, hk]
      rw [hfa] at ht hl2
      simp only [List.length_nil] at hl2
      repeat' first
        | (refine kOps ?_; first | (refine LOps.nil ?_) | (refine kStore ?_; refine LOps.storeP tT_ok rfl rfl rfl rfl rfl rfl rfl rfl rfl ?_) | (refine LOps.ev tT_ok rfl ?_) | (refine kAlloc ?_; refine LOps.alloc tT_ok rfl rfl rfl rfl ?_) | (refine kApp ?_; first | (refine LOps.app tT_ok rfl rfl rfl rfl rfl rfl rfl rfl rfl rfl rfl ?_ ?_ (AppB.of ?_ rfl) ?_; (focus (first | rfl | (simp <;> fail))); (focus (first | exact Elems.of rfl | exact Elems.map fun _ => rfl | exact PE.els _ (fun _ => rfl) _)); (focus (first | omega | (simp; omega))))) | (refine kLoad ?_; first | (refine LOps.ans (AnsL.loadP tT_ok rfl rfl rfl rfl) ?_)) | (refine kLen ?_; first | (refine LOps.ans (AnsL.lenM tT_ok rfl rfl rfl) ?_)) | (refine kIdx ?_; first | (refine LOps.ans (AnsL.idx tT_ok rfl rfl rfl rfl rfl hga rfl rfl) ?_)) | (refine kCallN 101 ?_; first | (refine LOps.ans (AnsL.callP rfl rfl rfl (ok101) (hK _)) ?_)))
        | (refine kWL ?_; first | (refine WL.seq ?_) | (refine WL.region (by kernel_rfl) ?_) | (refine WL.block ?_) | (refine WL.skip ?_) | (refine kCond ?_; first | (refine WL.condT' rfl ?_ ?_; (focus (first | (simp only [decide_eq_true_eq, decide_eq_false_iff_not, Bool.not_eq_true', Bool.not_eq_false', Int.ofNat_lt, Int.ofNat_le, Int.ofNat_inj, not_true_eq_false, not_false_eq_true]; omega)))) | (refine WL.condF' rfl ?_ ?_; (focus (first | (exact decide_eq_false (by assumption)))))))
        | (refine lthen_n ?_)
      refine WL.loopD (fun j : Nat => x.sub.length - j) (fun j => [(3, .sl (s.next + 0) ((us ++ ([] : List Bind) ++ kk ++ (x.sub.take j).flatMap (PE.colP varAt (u + 1))).map Bind.toV)), (9, .sl 0 (l.map PE.toV)), (10, .int .i64 l.length), (11, .int .i64 (i : Int)), (32, .sl 0 (x.sub.map PE.planV)), (33, .int .i64 x.sub.length), (34, .int .i64 (j : Int))])
        (fun j => .fam (us ++ ([] : List Bind) ++ kk ++ (x.sub.take j).flatMap (PE.colP varAt (u + 1))).length 3 :: .var x.v.cells :: []) (fun j => j ≤ x.sub.length) 2 0 (by simp) (fun _ => rfl) ⟨by simp [lk]; try rfl, rfl, rfl, rfl, rfl, rfl, rfl, trivial⟩ (by simp [PE.v, V.cells]; try omega) (fun j hj => ?_) (fun j hj => ?_)
      · generalize (x.sub.take j).flatMap (PE.colP varAt (u + 1)) = vs
        simp [UnderK, UnderX, Own.under, V.under, V.underL, PE.v, V.cells, underLA]
      have hn := flatMap_take_len (PE.colP varAt (u + 1)) x.sub j
      rcases Nat.lt_or_ge j x.sub.length with hlt2 | hge2
      · have hn2 := flatMap_take_len (PE.colP varAt (u + 1)) x.sub (j + 1)
        have hgb : (x.sub.map PE.planV)[j]? = some (PL.v x.sub[j]) := by rw [List.getElem?_map, List.getElem?_eq_getElem hlt2]; simp only [Option.map_some, PE.planV_eq]
        have ht2 := flatMap_take (PE.colP varAt (u + 1)) hlt2
        rw [ht2, List.length_append] at hn2
        have hP := fun t => implParts_v x.sub[j] (Nat.le_trans (PE.wgt_sub (List.getElem_mem hlt2)) hxw) t
        have hV := fun t => (hS x.sub[j] (List.getElem_mem hlt2)).pure t
        rw [PE.colP_eq] at ht2 hn2
        generalize x.sub[j] = y at hgb hP hV ht2 hn2
        generalize y.parts = ps at hP hV ht2 hn2
        generalize (x.sub.take j).flatMap (PE.colP varAt (u + 1)) = vs at hn hn2 ht2 ⊢
        generalize ps.flatMap (PE.col varAt (u + 1)) = ws at hV hn2 ht2
        repeat' first
          | (refine kOps ?_; first | (refine LOps.nil ?_) | (refine kStore ?_; refine LOps.storeP tT_ok rfl rfl rfl rfl rfl rfl rfl rfl rfl ?_) | (refine LOps.ev tT_ok rfl ?_) | (refine kAlloc ?_; refine LOps.alloc tT_ok rfl rfl rfl rfl ?_) | (refine kApp ?_; first | (refine LOps.app tT_ok rfl rfl rfl rfl rfl rfl rfl rfl rfl rfl rfl ?_ ?_ (AppB.of ?_ rfl) ?_; (focus (first | rfl | (simp <;> fail))); (focus (first | exact Elems.of rfl | exact Elems.map fun _ => rfl | exact PE.els _ (fun _ => rfl) _)); (focus (first | omega | (simp; omega))))) | (refine kLoad ?_; first | (refine LOps.ans (AnsL.loadP tT_ok rfl rfl rfl rfl) ?_)) | (refine kBin ?_; first | (refine LOps.ans (AnsL.add rfl rfl ?_) ?_; (focus (constructor <;> omega)))) | (refine kIdx ?_; first | (refine LOps.ans (AnsL.idx tT_ok rfl rfl rfl rfl rfl hgb rfl rfl) ?_)) | (refine kCallN 101 ?_; first | (refine LOps.ans (AnsL.callP rfl rfl rfl (ok101) (hV _)) ?_)) | (refine kCallN 102 ?_; first | (refine LOps.ans (AnsL.callP rfl rfl rfl (ok102) (hP _)) ?_)))
          | (refine kWL ?_; first | (refine WL.seq ?_) | (refine WL.region (by kernel_rfl) ?_) | (refine WL.block ?_) | (refine WL.skip ?_) | (refine kCond ?_; first | (refine WL.condT' rfl ?_ ?_; (focus (first | (simp only [decide_eq_true_eq, decide_eq_false_iff_not, Bool.not_eq_true', Bool.not_eq_false', Int.ofNat_lt, Int.ofNat_le, Int.ofNat_inj, not_true_eq_false, not_false_eq_true]; omega))))))
          | (refine lthen_n ?_)
          | (refine lblock_n ?_)
        refine lbackD.of (j + 1) ?_ ?_ ?_ ?_
        · omega
        · omega
        · rw [ht2]
          exact ⟨by simp [lk], rfl, rfl, rfl, rfl, rfl, rfl, trivial⟩
        · rw [ht2]
          (simp [PE.v, PL.v, V.cells] <;> omega)
      · rw [List.take_of_length_le hge2]
        repeat' first
          | (refine kOps ?_; first | (refine LOps.nil ?_) | (refine LOps.ev tT_ok rfl ?_) | (refine kBin ?_; first | (refine LOps.ans (AnsL.add rfl rfl ?_) ?_; (focus (constructor <;> omega)))))
          | (refine kWL ?_; first | (refine WL.seq ?_) | (refine WL.region (by kernel_rfl) ?_) | (refine WL.exit ?_) | (refine kCond ?_; first | (refine WL.condF' rfl ?_ ?_; (focus (first | (simp only [decide_eq_true_eq, decide_eq_false_iff_not, Bool.not_eq_true', Bool.not_eq_false', Int.ofNat_lt, Int.ofNat_le, Int.ofNat_inj, not_true_eq_false, not_false_eq_true]; omega))))))
          | (refine lthen_n ?_)
          | (refine lthen_e ?_)
          | (refine lblock_n ?_)
          | (refine lblock_e ?_)
          | (refine lbackD_e ?_)
        refine lbackD.of (i + 1) ?_ ?_ ?_ ?_
        · omega
        · omega
        · rw [ht]
          exact ⟨by simp [lk], rfl, rfl, rfl, trivial⟩
        · rw [ht]
          (simp [PE.v, V.cells] <;> omega)
  · rw [List.take_of_length_le hge]
    repeat' first
      | (refine kOps ?_; first | (refine LOps.nil ?_) | (refine LOps.ev tT_ok rfl ?_))
      | (refine kWL ?_; first | (refine WL.seq ?_) | (refine WL.region (by kernel_rfl) ?_) | (refine WL.exit ?_) | (refine WL.ret ?_) | (refine kCond ?_; first | (refine WL.condF' rfl ?_ ?_; (focus (first | (simp only [decide_eq_true_eq, decide_eq_false_iff_not, Bool.not_eq_true', Bool.not_eq_false', Int.ofNat_lt, Int.ofNat_le, Int.ofNat_inj, not_true_eq_false, not_false_eq_true]; omega))))))
      | (refine lthen_n ?_)
      | (refine lthen_e ?_)
      | (refine lblock_e ?_)
      | (refine lbackD_e ?_)
      | (refine LPost.r1 (r := .tmp 2) (.inl rfl) (Res1.tmp rfl) ?_)
    exact Own2.famC (s := s) (f := Bind.toV) (cs := l.flatMap (PE.col varAt u)) (k := 0) 3 (xs := [.fam (l.flatMap (PE.col varAt u)).length 3]) rfl rfl (fun _ => rfl) (fun _ => rfl)
theorem implVars_c (e : PE) : wgt e.v ≤ 1048576 → ∀ u : Int, VarC Try.prog 101 u e.kids ∧ ∀ p ∈ e.sub, VarC Try.prog 101 (u + 1) p.parts := by
  induction e using PE.ind with
  | h e ih1 ih2 =>
    intro hw u
    have e1 := PE.wgt_eq2 e
    have e2 := kids_w e.kids
    refine ⟨implVars_r u e.kids (by omega) fun k hk => ih1 k hk (Nat.le_trans (PE.wgt_kid hk) hw) u, fun p hp => ?_⟩
    have hpw := Nat.le_trans (PE.wgt_sub hp) hw
    exact implVars_r (u + 1) p.parts (Nat.le_trans (PL.parts_w p) hpw) fun k hk => ih2 p hp k hk (Nat.le_trans (PL.wgt_part2 hk) hpw) (u + 1)
def varsP (p : PL) : List Bind := p.parts.flatMap (PE.col varAt 0)
theorem varsP_len (p : PL) : (varsP p).length ≤ wgt p.v := Nat.le_trans (vars_len 0 p.parts) (PL.parts_w p)
theorem implVarsOf_o (p : PL) (hw : wgt p.v ≤ 1048576) (s : S) : VCalls Try.prog 33 [p.v] s (fun v t => Own2 (binds (varsP p)) v t) := by
  have hh : Hold s s.next [] := .start _ _
  have hP := fun t => implParts_v p hw t
  have hV := implVars_r 0 p.parts (Nat.le_trans (PL.parts_w p) hw) fun k hk => implVars_c k (Nat.le_trans (PL.wgt_part2 hk) hw) 0
  unfold varsP
  generalize p.parts = ps at hP hV
  refine LCalls.body Try.func33 rfl (by kernel_rfl) ?_
  repeat' first
    | (refine kBox ?_ ; first | (refine LOps.boxH hh rfl rfl ?_ ; intro s n hh))
    | (refine kCallN 101 ?_ ; refine LOps.lendH rfl rfl ok101 hh ?_ (fun t => hV t) (plain_binds _) ?_ ; (focus ((repeat' first | (exact RdH.nil) | (refine RdH.cons ?_ ?_) | (refine RdV.pl ?_; (focus (first | (exact plain_PExprS _))))); done)) ; intro s n hh)
    | (refine kOps ?_; first | (refine LOps.nil ?_) | (refine LOps.ev tT_ok rfl ?_) | (refine kLoad ?_; first | (refine LOps.ans (AnsL.loadH tT_ok 0 hh rfl rfl rfl rfl) ?_)) | (refine kCallN 102 ?_; first | (refine LOps.ans (AnsL.callP rfl rfl rfl (ok102) (hP _)) ?_)))
    | (refine kWL ?_; first | (refine WL.seq ?_) | (refine WL.region (by kernel_rfl) ?_) | (refine WL.ret ?_))
    | (refine lthen_n ?_)
    | (refine LPost.r1 (r := .tmp 2) (.inl rfl) (Res1.tmp rfl) ?_)
  exact Own2.ofH hh (by ((repeat' first | (exact ConsL.nil) | (exact ConsL.pls rfl rfl) | (exact Cons.pl rfl rfl) | (exact Cons.zsl) | (exact Cons.nilsl) | (refine' Cons.bp ?_; ((repeat' first | (exact Pick.here) | (refine' Pick.there ?_)); done)) | (refine' Cons.ap ?_; ((repeat' first | (exact Pick.here) | (refine' Pick.there ?_)); done)) | (exact Cons.blk 0 rfl rfl rfl) | (exact Cons.blk 1 rfl rfl rfl) | (exact Cons.blk 2 rfl rfl rfl) | (exact Cons.blk 3 rfl rfl rfl) | (exact Cons.pl (by assumption) (by assumption)) | (exact ConsL.pls (by assumption) (by assumption)) | (refine' ConsL.cons ?_ ?_) | (refine' Cons.agg ?_)); done))
theorem specVarsOf_o (p : PL) (hw : wgt p.v ≤ 1048576) (s : S) : VCalls Try.prog 31 [p.v] s (fun v t => Own2 (binds (varsP p)) v t) := by
  have hh : Hold s s.next [] := .start _ _
  have hP := fun t => specParts_v p hw t
  have hvl := Nat.le_trans (vars_len 0 p.parts) (Nat.le_trans (PL.parts_w p) hw)
  have hE := fun k (hk : k ∈ p.parts) => specVars_c k (Nat.le_trans (PL.wgt_part2 hk) hw) 0
  have hpl := PL.parts_len p
  unfold varsP
  generalize p.parts = ps at hP hE hvl hpl
  refine LCalls.body Try.func31 rfl (by kernel_rfl) ?_
  repeat' first
    | (refine kBox ?_ ; first | (refine LOps.boxH hh rfl rfl ?_ ; intro s n hh))
    | (refine kBsl ?_ ; refine LOps.bsl0 tT_ok rfl rfl rfl rfl rfl ?_)
    | (refine kOps ?_; first | (refine LOps.nil ?_) | (refine LOps.ev tT_ok rfl ?_) | (refine kLoad ?_; first | (refine LOps.ans (AnsL.loadH tT_ok 0 hh rfl rfl rfl rfl) ?_)) | (refine kCallN 94 ?_; first | (refine LOps.ans (AnsL.callP rfl rfl rfl (ok94) (hP _)) ?_)))
    | (refine kWL ?_; first | (refine WL.seq ?_) | (refine WL.region (by kernel_rfl) ?_) | (refine WL.block ?_))
    | (refine lthen_n ?_)
  refine WL.zfamH (t := 3) 3 rfl rfl hh (fun s id hh => ?_)
  refine WL.loopH (fun i : Nat => ps.length - i) (fun i => [(3, .sl id (((ps.take i).flatMap (PE.col varAt 0)).map Bind.toV)), (4, .sl 0 (ps.map PE.toV)), (5, .int .i64 (i : Int))])
    (fun i => [.acc id 3 (((ps.take i).flatMap (PE.col varAt 0)).map Bind.toV) (((ps.take i).flatMap (PE.col varAt 0)).map Bind.toV)]) (fun i => i ≤ ps.length) 0 (Nat.zero_le _) ⟨rfl, rfl, rfl, trivial⟩ hh (Sel.cons 0 rfl rfl (Sel.nil)) (fun i s hi hh => ?_)
  try dsimp only at hi hh ⊢
  have hl := flatMap_take_len (PE.col varAt 0) ps i
  rcases Nat.lt_or_ge i ps.length with hlt | hge
  · have hl2 := flatMap_take_len (PE.col varAt 0) ps (i + 1)
    have hga : (ps.map PE.toV)[i]? = some (PE.v ps[i]) := by rw [List.getElem?_map, List.getElem?_eq_getElem hlt]; simp only [Option.map_some, PE.toV_eq]
    have ht := flatMap_take (PE.col varAt 0) hlt
    rw [ht, List.length_append] at hl2
    have hC := hE ps[i] (List.getElem_mem hlt) ((ps.take i).flatMap (PE.col varAt 0)) (by omega)
    generalize ps[i] = x at hga hC ht
    generalize (ps.take i).flatMap (PE.col varAt 0) = ys at hC ht hh ⊢
    repeat' first
      | (refine kCallN 95 ?_ ; refine LOps.accH 0 rfl hC rfl ok95 hh rfl rfl ?_ ; intro s hh)
      | (refine kOps ?_; first | (refine LOps.nil ?_) | (refine LOps.ev tT_ok rfl ?_) | (refine kLen ?_; first | (refine LOps.ans (AnsL.lenM tT_ok rfl rfl rfl) ?_)) | (refine kBin ?_; first | (refine LOps.ans (AnsL.add rfl rfl ?_) ?_; (focus (constructor <;> omega)))) | (refine kIdx ?_; first | (refine LOps.ans (AnsL.idx tT_ok rfl rfl rfl rfl rfl hga rfl rfl) ?_)))
      | (refine kWL ?_; first | (refine WL.seq ?_) | (refine WL.region (by kernel_rfl) ?_) | (refine WL.block ?_) | (refine WL.skip ?_) | (refine kCond ?_; first | (refine WL.condT' rfl ?_ ?_; (focus (first | (simp only [decide_eq_true_eq, decide_eq_false_iff_not, Bool.not_eq_true', Bool.not_eq_false', Int.ofNat_lt, Int.ofNat_le, Int.ofNat_inj, not_true_eq_false, not_false_eq_true]; omega))))))
      | (refine lthen_n ?_)
      | (refine lblock_n ?_)
    refine lbackH.of (i + 1) ?_ hh ?_ hlt (by omega)
    · try dsimp only
      rw [ht]
      repeat' first | exact SubL.nil | (refine SubL.mk rfl ?_ ?_) | rfl | (simp; omega)
    · try dsimp only
      rw [ht]
      exact Sel.cons 0 rfl rfl .nil
  · rw [List.take_of_length_le hge] at hh ⊢
    repeat' first
      | (refine kOps ?_; first | (refine LOps.nil ?_) | (refine LOps.ev tT_ok rfl ?_) | (refine kLen ?_; first | (refine LOps.ans (AnsL.lenM tT_ok rfl rfl rfl) ?_)))
      | (refine kWL ?_; first | (refine WL.seq ?_) | (refine WL.region (by kernel_rfl) ?_) | (refine WL.exit ?_) | (refine WL.ret ?_) | (refine kCond ?_; first | (refine WL.condF' rfl ?_ ?_; (focus (first | (simp only [decide_eq_true_eq, decide_eq_false_iff_not, Bool.not_eq_true', Bool.not_eq_false', Int.ofNat_lt, Int.ofNat_le, Int.ofNat_inj, not_true_eq_false, not_false_eq_true]; omega))))))
      | (refine lthen_n ?_)
      | (refine lthen_e ?_)
      | (refine lblock_e ?_)
      | (refine lbackH_e ?_)
      | (refine LPost.r1 (r := .tmp 2) (.inl rfl) (Res1.tmp rfl) ?_)
    exact Own2.ofH hh (by ((repeat' first | (exact ConsL.nil) | (exact ConsL.pls rfl rfl) | (exact Cons.pl rfl rfl) | (exact Cons.zsl) | (exact Cons.nilsl) | (refine' Cons.bp ?_; ((repeat' first | (exact Pick.here) | (refine' Pick.there ?_)); done)) | (refine' Cons.ap ?_; ((repeat' first | (exact Pick.here) | (refine' Pick.there ?_)); done)) | (exact Cons.blk 0 rfl rfl rfl) | (exact Cons.blk 1 rfl rfl rfl) | (exact Cons.blk 2 rfl rfl rfl) | (exact Cons.blk 3 rfl rfl rfl) | (exact Cons.pl (by assumption) (by assumption)) | (exact ConsL.pls (by assumption) (by assumption)) | (refine' ConsL.cons ?_ ?_) | (refine' Cons.agg ?_)); done))

end Go.Proofs.Ytehmlklfbllgcaa
