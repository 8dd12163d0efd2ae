/-
  The law on lifting. Own work; no condition.
-/
import Derived.Test.YtolhegocbkckdaaDFreeP
import Derived.Test.YtolhegocbkckdaaDPFree2
import Derived.Test.YtolhegocbkckdaaDBig
import Derived.Test.YtolhegocbkckdaaDPd4
import Derived.Test.YtolhegocbkckdaaDLiftR
namespace Go.Proofs.Ytolhegocbkckdaa
open Go
set_option linter.unusedSimpArgs false
set_option linter.unusedVariables false

theorem implFreeIn_p (e : PE) (hw : wgt e.v ≤ 1048576) (u : Int) (s : S) : VCalls Try.prog 13 [e.v, .int .i64 u] s (fun v s' => v = .sl 0 ((freeTop e u).map Bind.toV) ∧ s' = s) :=
  VCalls.pureOf (plainL_cons (PE.plainv e) (plainL_cons rfl rfl)) (plain_BindS _) (fun t => implFreeIn_o e hw u t) s
theorem specFreeIn_p (e : PE) (hw : wgt e.v ≤ 1048576) (u : Int) (s : S) : VCalls Try.prog 16 [e.v, .int .i64 u] s (fun v s' => v = .sl 0 ((freeTop e u).map Bind.toV) ∧ s' = s) :=
  VCalls.pureOf (plainL_cons (PE.plainv e) (plainL_cons rfl rfl)) (plain_BindS _) (fun t => specFreeIn_o e hw u t) s
theorem implLifted_p (e : PE) (hw : wgt e.v ≤ 1048576) (u : Int) (s : S) : VCalls Try.prog 10 [e.v, .int .i64 u] s (fun v s' => v = (liftTop e u).v ∧ s' = s) :=
  VCalls.pureOf (plainL_cons (PE.plainv e) (plainL_cons rfl rfl)) (PE.plainv _) (fun t => implLifted_c e u hw t) s
theorem freeTop_len' (e : PE) (u : Int) : (freeTop e u).length ≤ 1 + wgt e.v := by
  unfold freeTop
  split
  · exact PE.col_len freeAt freeAt_len e u
  · simp
theorem specPartsOf_p (p : PL) (hw : wgt p.v ≤ 1048576) (s : S) : VCalls Try.prog 20 [p.v] s (fun v s' => v = .sl 0 (p.parts.map PE.toV) ∧ s' = s) :=
  VCalls.pureOf (plainL_cons (PL.plain p) rfl) (plain_PExprS _) (fun t => specPartsOf_c p hw t) s
def ColC (P : Program) (g : FuncId) (e : PE) : Prop := ∀ (u : Int) (s : S), VCalls P g [e.v] s (fun v s' => v = .int .i64 ((e.col varAt u).length : Nat) ∧ s' = s)
theorem colsIn_c (e : PE) : wgt e.v ≤ 1048576 → ColC Try.prog 14 e := by
  induction e using PE.ind with
  | h e ih1 ih2 =>
    intro hw u s
    have hlen := PE.col_len varAt varAt_len e u
    rw [PE.col_eq] at hlen ⊢
    simp only [List.length_append] at hlen ⊢
    have hsl := wgt_len PE.planV e.sub
    have hkl := wgt_len PE.toV e.kids
    have e1 := PE.wgt_eq e
    simp only [ColC] at ih1 ih2
    by_cases hk : e.kind = 2
    · have hv : (varAt u e.kind e.up e.pos).length = 1 := by unfold varAt; rw [if_pos hk]; rfl
      rw [hv] at hlen ⊢
      refine LCalls.pure Try.func14 rfl (by kernel_rfl) (by simp) ?_
      repeat' first
        | (refine kOps ?_; first | (refine LOps.nil ?_) | (refine LOps.ev tT_ok rfl ?_) | (refine kBox ?_; refine LOps.box rfl rfl rfl rfl ?_) | (refine kLoad ?_; first | (refine LOps.ans (AnsL.loadP tT_ok rfl rfl rfl rfl) ?_)))
        | (refine kWL ?_; first | (refine WL.seq ?_) | (refine WL.region (by kernel_rfl) ?_) | (refine WL.block ?_) | (refine kCond ?_; first | (refine WL.condT' rfl ?_ ?_; (focus (first | (exact decide_eq_true (by assumption)))))))
        | (refine lthen_n ?_)
      refine WL.loopD (fun i : Nat => e.kids.length - i) (fun i => [(1, .ptr (s.next + 0) 0), (3, .int .i64 (1 + ((e.kids.take i).flatMap (PE.col varAt u)).length : Nat)), (4, .int .i64 (i : Int))]) (fun i => [.var e.v.cells]) (fun i => i ≤ e.kids.length) 1 0 (by simp) (fun _ => rfl) ⟨rfl, rfl, rfl, trivial⟩ rfl (fun i hi => ?_) (fun i hi => ?_)
      · simp [UnderK, UnderX, Own.under, V.under, V.underL, PE.v, V.cells]
      have hl := flatMap_take_len (PE.col varAt u) e.kids i
      rcases Nat.lt_or_ge i e.kids.length with hlt | hge
      · have hl2 := flatMap_take_len (PE.col varAt u) e.kids (i + 1)
        have hga : (e.kids.map PE.toV)[i]? = some (PE.v e.kids[i]) := by rw [List.getElem?_map, List.getElem?_eq_getElem hlt]; simp only [Option.map_some, PE.toV_eq]
        have hE := ih1 e.kids[i] (List.getElem_mem hlt) (Nat.le_trans (PE.wgt_kid (List.getElem_mem hlt)) hw) u
        have ht := flatMap_take (PE.col varAt u) hlt
        rw [ht, List.length_append] at hl2
        have ht2 : ((e.kids.take (i + 1)).flatMap (PE.col varAt u)).length = ((e.kids.take i).flatMap (PE.col varAt u)).length + (e.kids[i].col varAt u).length := by rw [ht, List.length_append]
        generalize e.kids[i] = x at hga hE ht2 hl2
        generalize ((e.kids.take i).flatMap (PE.col varAt u)).length = acc at hl hl2 ht2 ⊢
        generalize (x.col varAt u).length = y at hE hl2 ht2
        repeat' first
          | (refine kOps ?_; first | (refine LOps.nil ?_) | (refine LOps.ev tT_ok rfl ?_) | (refine kLoad ?_; first | (refine LOps.ans (AnsL.loadP tT_ok rfl rfl rfl rfl) ?_)) | (refine kLen ?_; first | (refine LOps.ans (AnsL.lenM tT_ok rfl rfl rfl) ?_)) | (refine kBin ?_; first | (refine LOps.ans (AnsL.add rfl rfl ?_) ?_; (focus (constructor <;> omega)))) | (refine kIdx ?_; first | (refine LOps.ans (AnsL.idx tT_ok rfl rfl rfl rfl rfl hga rfl rfl) ?_)) | (refine kCallN 14 ?_; first | (refine LOps.ans (AnsL.callP rfl rfl rfl (ok14) (hE _)) ?_)))
          | (refine kWL ?_; first | (refine WL.seq ?_) | (refine WL.region (by kernel_rfl) ?_) | (refine WL.block ?_) | (refine WL.skip ?_) | (refine kCond ?_; first | (refine WL.condT' rfl ?_ ?_; (focus (first | (simp only [decide_eq_true_eq, decide_eq_false_iff_not, Bool.not_eq_true', Bool.not_eq_false', Int.ofNat_lt, Int.ofNat_le, Int.ofNat_inj, not_true_eq_false, not_false_eq_true]; omega))))))
          | (refine lthen_n ?_)
          | (refine lblock_n ?_)
        refine lbackD.of (i + 1) ?_ ?_ ?_ rfl
        · omega
        · omega
        rw [ht2]
        repeat' first | exact SubL.nil | (refine SubL.mk rfl ?_ ?_) | rfl | (simp <;> fail) | (simp; omega)
      rw [List.take_of_length_le hge] at hl ⊢
      generalize (e.kids.flatMap (PE.col varAt u)).length = kk at hl hlen ⊢
      repeat' first
        | (refine kOps ?_; first | (refine LOps.nil ?_) | (refine LOps.ev tT_ok rfl ?_) | (refine kLoad ?_; first | (refine LOps.ans (AnsL.loadP tT_ok rfl rfl rfl rfl) ?_)) | (refine kLen ?_; first | (refine LOps.ans (AnsL.lenM tT_ok rfl rfl rfl) ?_)))
        | (refine kWL ?_; first | (refine WL.seq ?_) | (refine WL.region (by kernel_rfl) ?_) | (refine WL.block ?_) | (refine WL.exit ?_) | (refine kCond ?_; first | (refine WL.condF' rfl ?_ ?_; (focus (first | (simp only [decide_eq_true_eq, decide_eq_false_iff_not, Bool.not_eq_true', Bool.not_eq_false', Int.ofNat_lt, Int.ofNat_le, Int.ofNat_inj, not_true_eq_false, not_false_eq_true]; omega))))))
        | (refine lthen_n ?_)
        | (refine lthen_e ?_)
        | (refine lblock_e ?_)
        | (refine lbackD_e ?_)
      refine WL.loopD (fun i : Nat => e.sub.length - i) (fun i => [(1, .ptr (s.next + 0) 0), (3, .int .i64 (1 + (kk + ((e.sub.take i).flatMap (PE.colP varAt (u + 1))).length) : Nat)), (5, .int .i64 (i : Int))]) (fun i => [.var e.v.cells]) (fun i => i ≤ e.sub.length) 1 0 (by simp) (fun _ => rfl) ⟨rfl, by simp [lk], rfl, trivial⟩ rfl (fun i hi => ?_) (fun i hi => ?_)
      · simp [UnderK, UnderX, Own.under, V.under, V.underL, PE.v, V.cells]
      have hm := flatMap_take_len (PE.colP varAt (u + 1)) e.sub i
      rcases Nat.lt_or_ge i e.sub.length with hlt | hge
      · have hm2 := flatMap_take_len (PE.colP varAt (u + 1)) e.sub (i + 1)
        have hga : (e.sub.map PE.planV)[i]? = some (PL.v e.sub[i]) := by rw [List.getElem?_map, List.getElem?_eq_getElem hlt]; simp only [Option.map_some, PE.planV_eq]
        have hpw := PE.wgt_sub (List.getElem_mem hlt)
        have hP := fun t => specPartsOf_p e.sub[i] (Nat.le_trans hpw hw) t
        have hpl := PL.parts_len e.sub[i]
        have hI := fun k hk => ih2 e.sub[i] (List.getElem_mem hlt) k hk (Nat.le_trans (PL.wgt_part2 hk) (Nat.le_trans hpw hw)) (u + 1)
        have ht := flatMap_take (PE.colP varAt (u + 1)) hlt
        rw [PE.colP_eq] at ht
        rw [ht, List.length_append] at hm2
        have ht2 : ((e.sub.take (i + 1)).flatMap (PE.colP varAt (u + 1))).length = ((e.sub.take i).flatMap (PE.colP varAt (u + 1))).length + (e.sub[i].parts.flatMap (PE.col varAt (u + 1))).length := by rw [ht, List.length_append]
        clear ht
        generalize e.sub[i] = x at hga hP ht2 hm2 hI hpl hpw
        generalize x.parts = ps at hP ht2 hm2 hI hpl
        generalize ((e.sub.take i).flatMap (PE.colP varAt (u + 1))).length = acc at hm hm2 ht2 ⊢
        repeat' first
          | (refine kOps ?_; first | (refine LOps.nil ?_) | (refine LOps.ev tT_ok rfl ?_) | (refine kLoad ?_; first | (refine LOps.ans (AnsL.loadP tT_ok rfl rfl rfl rfl) ?_)) | (refine kLen ?_; first | (refine LOps.ans (AnsL.lenM tT_ok rfl rfl rfl) ?_)) | (refine kIdx ?_; first | (refine LOps.ans (AnsL.idx tT_ok rfl rfl rfl rfl rfl hga rfl rfl) ?_)) | (refine kCallN 20 ?_; first | (refine LOps.ans (AnsL.callP rfl rfl rfl (ok20) (hP _)) ?_)))
          | (refine kWL ?_; first | (refine WL.seq ?_) | (refine WL.region (by kernel_rfl) ?_) | (refine WL.block ?_) | (refine WL.skip ?_) | (refine kCond ?_; first | (refine WL.condT' rfl ?_ ?_; (focus (first | (simp only [decide_eq_true_eq, decide_eq_false_iff_not, Bool.not_eq_true', Bool.not_eq_false', Int.ofNat_lt, Int.ofNat_le, Int.ofNat_inj, not_true_eq_false, not_false_eq_true]; omega))))))
          | (refine lthen_n ?_)
        refine WL.loopD (fun j : Nat => ps.length - j) (fun j => [(1, .ptr (s.next + 0) 0), (3, .int .i64 (1 + (kk + (acc + ((ps.take j).flatMap (PE.col varAt (u + 1))).length)) : Nat)), (5, .int .i64 (i : Int)), (6, .sl 0 (ps.map PE.toV)), (7, .int .i64 (j : Int))]) (fun j => [.var e.v.cells]) (fun j => j ≤ ps.length) 1 0 (by simp) (fun _ => rfl) ⟨rfl, by simp [lk], rfl, rfl, rfl, trivial⟩ rfl (fun j hj => ?_) (fun j hj => ?_)
        · simp [UnderK, UnderX, Own.under, V.under, V.underL, PE.v, V.cells]
        have hn := flatMap_take_len (PE.col varAt (u + 1)) ps j
        rcases Nat.lt_or_ge j ps.length with hlt2 | hge2
        · have hn2 := flatMap_take_len (PE.col varAt (u + 1)) ps (j + 1)
          have hgb : (ps.map PE.toV)[j]? = some (PE.v ps[j]) := by rw [List.getElem?_map, List.getElem?_eq_getElem hlt2]; simp only [Option.map_some, PE.toV_eq]
          have hE := hI ps[j] (List.getElem_mem hlt2)
          have ht3 : ((ps.take (j + 1)).flatMap (PE.col varAt (u + 1))).length = ((ps.take j).flatMap (PE.col varAt (u + 1))).length + (ps[j].col varAt (u + 1)).length := by rw [flatMap_take (PE.col varAt (u + 1)) hlt2, List.length_append]
          rw [ht3] at hn2
          generalize ps[j] = y at hgb hE ht3 hn2
          generalize ((ps.take j).flatMap (PE.col varAt (u + 1))).length = vs at hn hn2 ht3 ⊢
          generalize (y.col varAt (u + 1)).length = z at hE hn2 ht3
          repeat' first
            | (refine kOps ?_; first | (refine LOps.nil ?_) | (refine LOps.ev tT_ok rfl ?_) | (refine kLen ?_; first | (refine LOps.ans (AnsL.lenM tT_ok rfl rfl rfl) ?_)) | (refine kBin ?_; first | (refine LOps.ans (AnsL.add rfl rfl ?_) ?_; (focus (constructor <;> omega)))) | (refine kIdx ?_; first | (refine LOps.ans (AnsL.idx tT_ok rfl rfl rfl rfl rfl hgb rfl rfl) ?_)) | (refine kCallN 14 ?_; first | (refine LOps.ans (AnsL.callP rfl rfl rfl (ok14) (hE _)) ?_)))
            | (refine kWL ?_; first | (refine WL.seq ?_) | (refine WL.region (by kernel_rfl) ?_) | (refine WL.block ?_) | (refine WL.skip ?_) | (refine kCond ?_; first | (refine WL.condT' rfl ?_ ?_; (focus (first | (simp only [decide_eq_true_eq, decide_eq_false_iff_not, Bool.not_eq_true', Bool.not_eq_false', Int.ofNat_lt, Int.ofNat_le, Int.ofNat_inj, not_true_eq_false, not_false_eq_true]; omega))))))
            | (refine lthen_n ?_)
            | (refine lblock_n ?_)
          refine lbackD.of (j + 1) ?_ ?_ ?_ rfl
          · omega
          · omega
          rw [ht3]
          repeat' first | exact SubL.nil | (refine SubL.mk rfl ?_ ?_) | rfl | (simp <;> fail) | (simp; omega)
        · rw [List.take_of_length_le hge2] at hn ⊢
          repeat' first
            | (refine kOps ?_; first | (refine LOps.nil ?_) | (refine LOps.ev tT_ok rfl ?_) | (refine kLen ?_; first | (refine LOps.ans (AnsL.lenM tT_ok rfl rfl rfl) ?_)) | (refine kBin ?_; first | (refine LOps.ans (AnsL.add rfl rfl ?_) ?_; (focus (constructor <;> omega)))))
            | (refine kWL ?_; first | (refine WL.seq ?_) | (refine WL.region (by kernel_rfl) ?_) | (refine WL.exit ?_) | (refine kCond ?_; first | (refine WL.condF' rfl ?_ ?_; (focus (first | (simp only [decide_eq_true_eq, decide_eq_false_iff_not, Bool.not_eq_true', Bool.not_eq_false', Int.ofNat_lt, Int.ofNat_le, Int.ofNat_inj, not_true_eq_false, not_false_eq_true]; omega))))))
            | (refine lthen_n ?_)
            | (refine lthen_e ?_)
            | (refine lblock_n ?_)
            | (refine lblock_e ?_)
            | (refine lbackD_e ?_)
          refine lbackD.of (i + 1) ?_ ?_ ?_ rfl
          · omega
          · omega
          rw [ht2]
          repeat' first | exact SubL.nil | (refine SubL.mk rfl ?_ ?_) | rfl | (simp <;> fail) | (simp; omega)
      · rw [List.take_of_length_le hge]
        repeat' first
          | (refine kOps ?_; first | (refine LOps.nil ?_) | (refine LOps.ev tT_ok rfl ?_) | (refine kLoad ?_; first | (refine LOps.ans (AnsL.loadP tT_ok rfl rfl rfl rfl) ?_)) | (refine kLen ?_; first | (refine LOps.ans (AnsL.lenM tT_ok rfl rfl rfl) ?_)))
          | (refine kWL ?_; first | (refine WL.seq ?_) | (refine WL.region (by kernel_rfl) ?_) | (refine WL.exit ?_) | (refine WL.ret ?_) | (refine kCond ?_; first | (refine WL.condF' rfl ?_ ?_; (focus (first | (simp only [decide_eq_true_eq, decide_eq_false_iff_not, Bool.not_eq_true', Bool.not_eq_false', Int.ofNat_lt, Int.ofNat_le, Int.ofNat_inj, not_true_eq_false, not_false_eq_true]; omega))))))
          | (refine lthen_n ?_)
          | (refine lthen_e ?_)
          | (refine lblock_e ?_)
          | (refine lbackD_e ?_)
          | (refine LPost.r1 (r := .tmp 2) (.inl rfl) (Res1.tmp rfl) ?_)
          | (refine PureR.mk ?_)
        rfl
    · have hv : (varAt u e.kind e.up e.pos).length = 0 := by unfold varAt; rw [if_neg hk]; rfl
      rw [hv] at hlen ⊢
      refine LCalls.pure Try.func14 rfl (by kernel_rfl) (by simp) ?_
      repeat' first
        | (refine kOps ?_; first | (refine LOps.nil ?_) | (refine LOps.ev tT_ok rfl ?_) | (refine kBox ?_; refine LOps.box rfl rfl rfl rfl ?_) | (refine kLoad ?_; first | (refine LOps.ans (AnsL.loadP tT_ok rfl rfl rfl rfl) ?_)))
        | (refine kWL ?_; first | (refine WL.seq ?_) | (refine WL.region (by kernel_rfl) ?_) | (refine WL.block ?_) | (refine WL.skip ?_) | (refine kCond ?_; first | (refine WL.condF' rfl ?_ ?_; (focus (first | (exact decide_eq_false (by assumption)))))))
        | (refine lthen_n ?_)
      refine WL.loopD (fun i : Nat => e.kids.length - i) (fun i => [(1, .ptr (s.next + 0) 0), (3, .int .i64 (0 + ((e.kids.take i).flatMap (PE.col varAt u)).length : Nat)), (4, .int .i64 (i : Int))]) (fun i => [.var e.v.cells]) (fun i => i ≤ e.kids.length) 1 0 (by simp) (fun _ => rfl) ⟨rfl, rfl, rfl, trivial⟩ rfl (fun i hi => ?_) (fun i hi => ?_)
      · simp [UnderK, UnderX, Own.under, V.under, V.underL, PE.v, V.cells]
      have hl := flatMap_take_len (PE.col varAt u) e.kids i
      rcases Nat.lt_or_ge i e.kids.length with hlt | hge
      · have hl2 := flatMap_take_len (PE.col varAt u) e.kids (i + 1)
        have hga : (e.kids.map PE.toV)[i]? = some (PE.v e.kids[i]) := by rw [List.getElem?_map, List.getElem?_eq_getElem hlt]; simp only [Option.map_some, PE.toV_eq]
        have hE := ih1 e.kids[i] (List.getElem_mem hlt) (Nat.le_trans (PE.wgt_kid (List.getElem_mem hlt)) hw) u
        have ht := flatMap_take (PE.col varAt u) hlt
        rw [ht, List.length_append] at hl2
        have ht2 : ((e.kids.take (i + 1)).flatMap (PE.col varAt u)).length = ((e.kids.take i).flatMap (PE.col varAt u)).length + (e.kids[i].col varAt u).length := by rw [ht, List.length_append]
        generalize e.kids[i] = x at hga hE ht2 hl2
        generalize ((e.kids.take i).flatMap (PE.col varAt u)).length = acc at hl hl2 ht2 ⊢
        generalize (x.col varAt u).length = y at hE hl2 ht2
        repeat' first
          | (refine kOps ?_; first | (refine LOps.nil ?_) | (refine LOps.ev tT_ok rfl ?_) | (refine kLoad ?_; first | (refine LOps.ans (AnsL.loadP tT_ok rfl rfl rfl rfl) ?_)) | (refine kLen ?_; first | (refine LOps.ans (AnsL.lenM tT_ok rfl rfl rfl) ?_)) | (refine kBin ?_; first | (refine LOps.ans (AnsL.add rfl rfl ?_) ?_; (focus (constructor <;> omega)))) | (refine kIdx ?_; first | (refine LOps.ans (AnsL.idx tT_ok rfl rfl rfl rfl rfl hga rfl rfl) ?_)) | (refine kCallN 14 ?_; first | (refine LOps.ans (AnsL.callP rfl rfl rfl (ok14) (hE _)) ?_)))
          | (refine kWL ?_; first | (refine WL.seq ?_) | (refine WL.region (by kernel_rfl) ?_) | (refine WL.block ?_) | (refine WL.skip ?_) | (refine kCond ?_; first | (refine WL.condT' rfl ?_ ?_; (focus (first | (simp only [decide_eq_true_eq, decide_eq_false_iff_not, Bool.not_eq_true', Bool.not_eq_false', Int.ofNat_lt, Int.ofNat_le, Int.ofNat_inj, not_true_eq_false, not_false_eq_true]; omega))))))
          | (refine lthen_n ?_)
          | (refine lblock_n ?_)
        refine lbackD.of (i + 1) ?_ ?_ ?_ rfl
        · omega
        · omega
        rw [ht2]
        repeat' first | exact SubL.nil | (refine SubL.mk rfl ?_ ?_) | rfl | (simp <;> fail) | (simp; omega)
      rw [List.take_of_length_le hge] at hl ⊢
      generalize (e.kids.flatMap (PE.col varAt u)).length = kk at hl hlen ⊢
      repeat' first
        | (refine kOps ?_; first | (refine LOps.nil ?_) | (refine LOps.ev tT_ok rfl ?_) | (refine kLoad ?_; first | (refine LOps.ans (AnsL.loadP tT_ok rfl rfl rfl rfl) ?_)) | (refine kLen ?_; first | (refine LOps.ans (AnsL.lenM tT_ok rfl rfl rfl) ?_)))
        | (refine kWL ?_; first | (refine WL.seq ?_) | (refine WL.region (by kernel_rfl) ?_) | (refine WL.block ?_) | (refine WL.exit ?_) | (refine kCond ?_; first | (refine WL.condF' rfl ?_ ?_; (focus (first | (simp only [decide_eq_true_eq, decide_eq_false_iff_not, Bool.not_eq_true', Bool.not_eq_false', Int.ofNat_lt, Int.ofNat_le, Int.ofNat_inj, not_true_eq_false, not_false_eq_true]; omega))))))
        | (refine lthen_n ?_)
        | (refine lthen_e ?_)
        | (refine lblock_e ?_)
        | (refine lbackD_e ?_)
      refine WL.loopD (fun i : Nat => e.sub.length - i) (fun i => [(1, .ptr (s.next + 0) 0), (3, .int .i64 (0 + (kk + ((e.sub.take i).flatMap (PE.colP varAt (u + 1))).length) : Nat)), (5, .int .i64 (i : Int))]) (fun i => [.var e.v.cells]) (fun i => i ≤ e.sub.length) 1 0 (by simp) (fun _ => rfl) ⟨rfl, by simp [lk], rfl, trivial⟩ rfl (fun i hi => ?_) (fun i hi => ?_)
      · simp [UnderK, UnderX, Own.under, V.under, V.underL, PE.v, V.cells]
      have hm := flatMap_take_len (PE.colP varAt (u + 1)) e.sub i
      rcases Nat.lt_or_ge i e.sub.length with hlt | hge
      · have hm2 := flatMap_take_len (PE.colP varAt (u + 1)) e.sub (i + 1)
        have hga : (e.sub.map PE.planV)[i]? = some (PL.v e.sub[i]) := by rw [List.getElem?_map, List.getElem?_eq_getElem hlt]; simp only [Option.map_some, PE.planV_eq]
        have hpw := PE.wgt_sub (List.getElem_mem hlt)
        have hP := fun t => specPartsOf_p e.sub[i] (Nat.le_trans hpw hw) t
        have hpl := PL.parts_len e.sub[i]
        have hI := fun k hk => ih2 e.sub[i] (List.getElem_mem hlt) k hk (Nat.le_trans (PL.wgt_part2 hk) (Nat.le_trans hpw hw)) (u + 1)
        have ht := flatMap_take (PE.colP varAt (u + 1)) hlt
        rw [PE.colP_eq] at ht
        rw [ht, List.length_append] at hm2
        have ht2 : ((e.sub.take (i + 1)).flatMap (PE.colP varAt (u + 1))).length = ((e.sub.take i).flatMap (PE.colP varAt (u + 1))).length + (e.sub[i].parts.flatMap (PE.col varAt (u + 1))).length := by rw [ht, List.length_append]
        clear ht
        generalize e.sub[i] = x at hga hP ht2 hm2 hI hpl hpw
        generalize x.parts = ps at hP ht2 hm2 hI hpl
        generalize ((e.sub.take i).flatMap (PE.colP varAt (u + 1))).length = acc at hm hm2 ht2 ⊢
        repeat' first
          | (refine kOps ?_; first | (refine LOps.nil ?_) | (refine LOps.ev tT_ok rfl ?_) | (refine kLoad ?_; first | (refine LOps.ans (AnsL.loadP tT_ok rfl rfl rfl rfl) ?_)) | (refine kLen ?_; first | (refine LOps.ans (AnsL.lenM tT_ok rfl rfl rfl) ?_)) | (refine kIdx ?_; first | (refine LOps.ans (AnsL.idx tT_ok rfl rfl rfl rfl rfl hga rfl rfl) ?_)) | (refine kCallN 20 ?_; first | (refine LOps.ans (AnsL.callP rfl rfl rfl (ok20) (hP _)) ?_)))
          | (refine kWL ?_; first | (refine WL.seq ?_) | (refine WL.region (by kernel_rfl) ?_) | (refine WL.block ?_) | (refine WL.skip ?_) | (refine kCond ?_; first | (refine WL.condT' rfl ?_ ?_; (focus (first | (simp only [decide_eq_true_eq, decide_eq_false_iff_not, Bool.not_eq_true', Bool.not_eq_false', Int.ofNat_lt, Int.ofNat_le, Int.ofNat_inj, not_true_eq_false, not_false_eq_true]; omega))))))
          | (refine lthen_n ?_)
        refine WL.loopD (fun j : Nat => ps.length - j) (fun j => [(1, .ptr (s.next + 0) 0), (3, .int .i64 (0 + (kk + (acc + ((ps.take j).flatMap (PE.col varAt (u + 1))).length)) : Nat)), (5, .int .i64 (i : Int)), (6, .sl 0 (ps.map PE.toV)), (7, .int .i64 (j : Int))]) (fun j => [.var e.v.cells]) (fun j => j ≤ ps.length) 1 0 (by simp) (fun _ => rfl) ⟨rfl, by simp [lk], rfl, rfl, rfl, trivial⟩ rfl (fun j hj => ?_) (fun j hj => ?_)
        · simp [UnderK, UnderX, Own.under, V.under, V.underL, PE.v, V.cells]
        have hn := flatMap_take_len (PE.col varAt (u + 1)) ps j
        rcases Nat.lt_or_ge j ps.length with hlt2 | hge2
        · have hn2 := flatMap_take_len (PE.col varAt (u + 1)) ps (j + 1)
          have hgb : (ps.map PE.toV)[j]? = some (PE.v ps[j]) := by rw [List.getElem?_map, List.getElem?_eq_getElem hlt2]; simp only [Option.map_some, PE.toV_eq]
          have hE := hI ps[j] (List.getElem_mem hlt2)
          have ht3 : ((ps.take (j + 1)).flatMap (PE.col varAt (u + 1))).length = ((ps.take j).flatMap (PE.col varAt (u + 1))).length + (ps[j].col varAt (u + 1)).length := by rw [flatMap_take (PE.col varAt (u + 1)) hlt2, List.length_append]
          rw [ht3] at hn2
          generalize ps[j] = y at hgb hE ht3 hn2
          generalize ((ps.take j).flatMap (PE.col varAt (u + 1))).length = vs at hn hn2 ht3 ⊢
          generalize (y.col varAt (u + 1)).length = z at hE hn2 ht3
          repeat' first
            | (refine kOps ?_; first | (refine LOps.nil ?_) | (refine LOps.ev tT_ok rfl ?_) | (refine kLen ?_; first | (refine LOps.ans (AnsL.lenM tT_ok rfl rfl rfl) ?_)) | (refine kBin ?_; first | (refine LOps.ans (AnsL.add rfl rfl ?_) ?_; (focus (constructor <;> omega)))) | (refine kIdx ?_; first | (refine LOps.ans (AnsL.idx tT_ok rfl rfl rfl rfl rfl hgb rfl rfl) ?_)) | (refine kCallN 14 ?_; first | (refine LOps.ans (AnsL.callP rfl rfl rfl (ok14) (hE _)) ?_)))
            | (refine kWL ?_; first | (refine WL.seq ?_) | (refine WL.region (by kernel_rfl) ?_) | (refine WL.block ?_) | (refine WL.skip ?_) | (refine kCond ?_; first | (refine WL.condT' rfl ?_ ?_; (focus (first | (simp only [decide_eq_true_eq, decide_eq_false_iff_not, Bool.not_eq_true', Bool.not_eq_false', Int.ofNat_lt, Int.ofNat_le, Int.ofNat_inj, not_true_eq_false, not_false_eq_true]; omega))))))
            | (refine lthen_n ?_)
            | (refine lblock_n ?_)
          refine lbackD.of (j + 1) ?_ ?_ ?_ rfl
          · omega
          · omega
          rw [ht3]
          repeat' first | exact SubL.nil | (refine SubL.mk rfl ?_ ?_) | rfl | (simp <;> fail) | (simp; omega)
        · rw [List.take_of_length_le hge2] at hn ⊢
          repeat' first
            | (refine kOps ?_; first | (refine LOps.nil ?_) | (refine LOps.ev tT_ok rfl ?_) | (refine kLen ?_; first | (refine LOps.ans (AnsL.lenM tT_ok rfl rfl rfl) ?_)) | (refine kBin ?_; first | (refine LOps.ans (AnsL.add rfl rfl ?_) ?_; (focus (constructor <;> omega)))))
            | (refine kWL ?_; first | (refine WL.seq ?_) | (refine WL.region (by kernel_rfl) ?_) | (refine WL.exit ?_) | (refine kCond ?_; first | (refine WL.condF' rfl ?_ ?_; (focus (first | (simp only [decide_eq_true_eq, decide_eq_false_iff_not, Bool.not_eq_true', Bool.not_eq_false', Int.ofNat_lt, Int.ofNat_le, Int.ofNat_inj, not_true_eq_false, not_false_eq_true]; omega))))))
            | (refine lthen_n ?_)
            | (refine lthen_e ?_)
            | (refine lblock_n ?_)
            | (refine lblock_e ?_)
            | (refine lbackD_e ?_)
          refine lbackD.of (i + 1) ?_ ?_ ?_ rfl
          · omega
          · omega
          rw [ht2]
          repeat' first | exact SubL.nil | (refine SubL.mk rfl ?_ ?_) | rfl | (simp <;> fail) | (simp; omega)
      · rw [List.take_of_length_le hge]
        repeat' first
          | (refine kOps ?_; first | (refine LOps.nil ?_) | (refine LOps.ev tT_ok rfl ?_) | (refine kLoad ?_; first | (refine LOps.ans (AnsL.loadP tT_ok rfl rfl rfl rfl) ?_)) | (refine kLen ?_; first | (refine LOps.ans (AnsL.lenM tT_ok rfl rfl rfl) ?_)))
          | (refine kWL ?_; first | (refine WL.seq ?_) | (refine WL.region (by kernel_rfl) ?_) | (refine WL.exit ?_) | (refine WL.ret ?_) | (refine kCond ?_; first | (refine WL.condF' rfl ?_ ?_; (focus (first | (simp only [decide_eq_true_eq, decide_eq_false_iff_not, Bool.not_eq_true', Bool.not_eq_false', Int.ofNat_lt, Int.ofNat_le, Int.ofNat_inj, not_true_eq_false, not_false_eq_true]; omega))))))
          | (refine lthen_n ?_)
          | (refine lthen_e ?_)
          | (refine lblock_e ?_)
          | (refine lbackD_e ?_)
          | (refine LPost.r1 (r := .tmp 2) (.inl rfl) (Res1.tmp rfl) ?_)
          | (refine PureR.mk ?_)
        rfl
theorem specLifted_p (e : PE) (hw : wgt e.v ≤ 1048576) (u : Int) (s : S) : VCalls Try.prog 12 [e.v, .int .i64 u] s (fun v s' => v = (liftTop e u).v ∧ s' = s) :=
  VCalls.pureOf (plainL_cons (PE.plainv e) (plainL_cons rfl rfl)) (PE.plainv _) (fun t => specLifted_c e u hw t) s
theorem lift_wgt (e : PE) (b : Int) : wgt (liftTop e b).v = wgt e.v := by
  unfold liftTop
  split
  · exact PE.lf_wgt b e 0
  · rfl
theorem free_top0 (e : PE) : freeTop e 0 = e.col freeAt 0 := if_pos ⟨by omega, by omega⟩
theorem lift_free_len (e : PE) (b : Int) : (freeTop (liftTop e b) 0).length = (freeTop e 0).length := by
  rw [free_top0, free_top0]
  unfold liftTop
  split
  · rename_i h
    simp only [liftB, Bool.and_eq_true, decide_eq_true_eq] at h
    rw [free_lf h.1.1, List.length_map]
  · rfl
theorem lift_true {e : PE} {b : Int} (h : liftB e b = true) : liftTop e b = e.lf b 0 := if_pos h
theorem lift_ne {e : PE} {b : Int} (h : (liftTop e b).eqB e = false) : liftB e b = true := by
  cases hb : liftB e b
  · exfalso
    unfold liftTop at h
    rw [hb, if_neg (by simp), PE.eqB_refl] at h
    cases h
  · rfl
set_option maxHeartbeats 4000000 in
theorem lawLiftL_v {b : V} (hb : Bytes b) (s : S) : VCalls Try.prog 3 [b] s (fun v _ => v = .bool true) := by
  obtain ⟨c, hbig⟩ := big_v hb
  have hh : Hold s s.next [] := .start _ _
  refine LCalls.body Try.func3 rfl (by kernel_rfl) ?_
  cases c
  · skip
    repeat' first
      | (refine kAlloc ?_ ; refine LOps.allocH tT_ok hh rfl rfl ?_ ; intro s n hh)
      | (refine kStore ?_ ; first | (refine LOps.storeH tT_ok 0 hh rfl rfl rfl rfl rfl rfl rfl rfl rfl ?_ ; intro s hh))
      | (refine kCallN 9 ?_ ; refine LOps.drawAll rfl rfl ok9 hh (specDrawLifted_d hb) ?_ ; intro s x hq hh)
      | (refine kOps ?_; first | (refine LOps.nil ?_) | (refine LOps.ev tT_ok rfl ?_) | (refine kLoad ?_; first | (refine LOps.ans (AnsL.loadH tT_ok 0 hh rfl rfl rfl rfl) ?_)) | (refine kCallN 8 ?_; first | (refine LOps.ans (AnsL.callP rfl rfl rfl (ok8) (hbig _)) ?_)))
      | (refine kWL ?_; first | (refine WL.seq ?_) | (refine WL.region (by kernel_rfl) ?_) | (refine WL.skip ?_) | (refine kCond ?_; first | (refine WL.condF rfl ?_)))
      | (refine lthen_n ?_)
    obtain ⟨m, rfl⟩ : ∃ m, m = n := ⟨n, rfl⟩
    obtain ⟨e, k⟩ := x
    dsimp only at hq hh ⊢
    have hw : wgt e.v ≤ 1048576 := Nat.le_trans hq (by decide)
    have hwx : wgt (liftTop e k).v ≤ 1048576 := by rw [lift_wgt]; exact hw
    have hLi := fun t => implLifted_p e hw k t
    have hLs := fun t => specLifted_p e hw k t
    have hSX := fun t => specSamePExpr_c (liftTop e k) (liftTop e k) t
    rw [PE.eqB_refl] at hSX
    have hFe := fun t => implFreeIn_p e hw 0 t
    have hFx := fun t => implFreeIn_p (liftTop e k) hwx 0 t
    have hC := fun t => colsIn_c e hw 0 t
    have hCl : (freeTop e 0).length ≤ (e.col varAt 0).length := by rw [free_top0]; exact free_var e 0 0
    have hAl := lift_free_len e k
    have hlen := freeTop_len' e 0
    have hlc := PE.col_len varAt varAt_len e 0
    have hSe := fun t => specSamePExpr_c (liftTop e k) e t
    cases hcs : (liftTop e k).eqB e
    · rw [hcs] at hSe
      have hB := lift_ne hcs
      have hX := lift_true hB
      have hk : (0 ≤ k ∧ k ≤ 1000) ∧ e.ups = true := by simpa [liftB] using hB
      have hBe : freeTop (liftTop e k) 0 = (freeTop e 0).map (fun x => ⟨x.up + k, x.pos, 0⟩) := by rw [free_top0, free_top0, hX, free_lf hk.1.1]
      have hup : ∀ b ∈ freeTop e 0, 0 ≤ b.up ∧ b.up ≤ 1000 := by rw [free_top0]; exact free_ups e 0 (by omega) hk.2
      have hL3i := fun t => implLifted_p (liftTop e k) hwx 3 t
      have hL3s := fun t => specLifted_p (liftTop e k) hwx 3 t
      have hSY := fun t => specSamePExpr_c (liftTop (liftTop e k) 3) (liftTop e k) t
      have hLe3 := fun t => specLifted_p e hw (k + 3) t
      have hSZ : k ≤ 900 → (liftTop (liftTop e k) 3).eqB (liftTop e k) = false → ∀ t, VCalls Try.prog 11 [(liftTop (liftTop e k) 3).v, (liftTop e (k + 3)).v] t (fun v s' => v = .bool true ∧ s' = t) := fun h9 hy t => by
        have hB4 : liftB e (k + 3) = true := by simp only [liftB, hk.2, Bool.and_true, Bool.and_eq_true, decide_eq_true_eq]; omega
        have e1 : liftTop (liftTop e k) 3 = liftTop e (k + 3) := by rw [lift_true (lift_ne hy), lift_true hB4, hX, lf_lf hk.1.1]
        rw [e1]
        have h := specSamePExpr_c (liftTop e (k + 3)) (liftTop e (k + 3)) t
        rw [PE.eqB_refl] at h
        exact h
      rw [hBe] at hFx hAl
      clear hB hX hBe hwx
      generalize liftTop (liftTop e k) 3 = Y at hL3i hL3s hSY hSZ
      generalize liftTop e (k + 3) = Z at hLe3 hSZ
      generalize liftTop e k = X at hLi hLs hSX hFx hSe hcs hL3i hL3s hSY hSZ
      generalize freeTop e 0 = A at hFe hFx hCl hAl hlen hup
      generalize (e.col varAt 0).length = nC at hC hCl hlc
      repeat' first
        | (refine kAlloc ?_ ; refine LOps.allocH tT_ok hh rfl rfl ?_ ; intro s n hh)
        | (refine kStore ?_ ; first | (refine LOps.storeH tT_ok 0 hh rfl rfl rfl rfl rfl rfl rfl rfl rfl ?_ ; intro s hh))
        | (refine kOps ?_; first | (refine LOps.nil ?_) | (refine kG ?_; first | (refine LOps.gT rfl rfl rfl ?_) | (refine LOps.gD false rfl rfl rfl ?_ ?_; (focus (first | (simp only [decide_eq_true_eq, decide_eq_false_iff_not, Bool.not_eq_true', Bool.not_eq_false', Int.ofNat_lt, Int.ofNat_le, Int.ofNat_inj, not_true_eq_false, not_false_eq_true]; omega))))) | (refine LOps.ev tT_ok rfl ?_) | (refine kLoad ?_; first | (refine LOps.ans (AnsL.loadH tT_ok 0 hh rfl rfl rfl rfl) ?_) | (refine LOps.ans (AnsL.loadH tT_ok 1 hh rfl rfl rfl rfl) ?_)) | (refine kLen ?_; first | (refine LOps.ans (AnsL.lenM tT_ok rfl rfl rfl) ?_)) | (refine kCallN 10 ?_; first | (refine LOps.ans (AnsL.callP rfl rfl rfl (ok10) (hLi _)) ?_)) | (refine kCallN 11 ?_; first | (refine LOps.ans (AnsL.callP rfl rfl rfl (ok11) (hSe _)) ?_)) | (refine kCallN 13 ?_; first | (refine LOps.ans (AnsL.callP rfl rfl rfl (ok13) (hFe _)) ?_) | (refine LOps.ans (AnsL.callP rfl rfl rfl (ok13) (hFx _)) ?_)) | (refine kCallN 14 ?_; first | (refine LOps.ans (AnsL.callP rfl rfl rfl (ok14) (hC _)) ?_)))
        | (refine kWL ?_; first | (refine WL.seq ?_) | (refine WL.region (by kernel_rfl) ?_) | (refine WL.drawn (id := 5) [0, 1, 2, 3, 4, 5] [] [[], [], [], [1, 2], [0, 1, 2, 3], [0, 1, 2, 3, 4]] (by kernel_rfl) (by kernel_rfl) ?_) | (refine WL.block ?_) | (refine WL.skip ?_) | (refine kCond ?_; first | (refine WL.condF rfl ?_) | (refine WL.condF' rfl ?_ ?_; (focus (first | (simp only [decide_eq_true_eq, decide_eq_false_iff_not, Bool.not_eq_true', Bool.not_eq_false', Int.ofNat_lt, Int.ofNat_le, Int.ofNat_inj, not_true_eq_false, not_false_eq_true]; omega))))))
        | (refine kDr ?_; first | (refine LDr.nil ?_) | (refine LDr.fl rfl rfl (.ev tT_ok rfl) ?_) | (refine kDLoad rfl ?_; first | (refine LDr.fl rfl rfl (AnsL.loadH tT_ok 0 hh rfl rfl rfl rfl) ?_) | (refine LDr.fl rfl rfl (AnsL.loadH tT_ok 1 hh rfl rfl rfl rfl) ?_)) | (refine kDCallN 11 rfl ?_; first | (refine LDr.fl rfl rfl (AnsL.callP rfl rfl rfl (ok11) (hSX _)) ?_)) | (refine kDCallN 12 rfl ?_; first | (refine LDr.fl rfl rfl (AnsL.callP rfl rfl rfl (ok12) (hLs _)) ?_)))
        | (refine lthen_n ?_)
      refine WL.loopH (fun i : Nat => A.length - i) (fun i => [(3, .ptr m 0), (4, .int .i64 k), (5, .ptr n 0), (6, .sl 0 (A.map Bind.toV)), (7, .sl 0 ((A.map (fun x => ⟨x.up + k, x.pos, 0⟩)).map Bind.toV)), (8, .int .i64 (i : Int))]) (fun _ => [.cell n [.int .i64 X.kind, .int .i64 X.op, .bool X.nt, .int .i64 X.value.kind, .int .i64 X.value.num, .str X.value.text, .int .i64 X.up, .int .i64 X.pos, .sl 0 (X.kids.map PE.toV), .sl 0 (X.sub.map PE.planV)], .cell m [.int .i64 e.kind, .int .i64 e.op, .bool e.nt, .int .i64 e.value.kind, .int .i64 e.value.num, .str e.value.text, .int .i64 e.up, .int .i64 e.pos, .sl 0 (e.kids.map PE.toV), .sl 0 (e.sub.map PE.planV)]])
        (fun i => i ≤ A.length) 0 (Nat.zero_le _) ⟨rfl, rfl, rfl, rfl, rfl, rfl, trivial⟩ hh (Sel.refl _) (fun i s hi hh => ?_)
      try dsimp only at hi hh ⊢
      rcases Nat.lt_or_ge i A.length with hlt | hge
      · have hga : (A.map Bind.toV)[i]? = some (.agg [.int .i64 A[i].up, .int .i64 A[i].pos, .int .i64 A[i].type]) := by simp [hlt, Bind.toV]
        have hgb : ((A.map (fun x => (⟨x.up + k, x.pos, 0⟩ : Bind))).map Bind.toV)[i]? = some (.agg [.int .i64 (A[i].up + k), .int .i64 A[i].pos, .int .i64 0]) := by simp [hlt, Bind.toV]
        have hua := hup A[i] (List.getElem_mem hlt)
        generalize A[i] = a at hga hgb hua
        repeat' first
          | (refine kOps ?_; first | (refine LOps.nil ?_) | (refine LOps.ev tT_ok rfl ?_) | (refine kLen ?_; first | (refine LOps.ans (AnsL.lenM tT_ok rfl rfl rfl) ?_)) | (refine kBin ?_; first | (refine LOps.ans (AnsL.add rfl rfl ?_) ?_; (focus (constructor <;> omega)))))
          | (refine kWL ?_; first | (refine WL.seq ?_) | (refine WL.region (by kernel_rfl) ?_) | (refine WL.drawn (id := 16) [0, 1, 2, 3, 4, 5, 6, 7, 8, 9, 10, 11, 12, 13, 14, 15, 16, 17, 18, 19, 20, 21, 22, 23, 24, 25] [] [[], [], [0, 1], [0, 1, 2], [0, 1, 2, 3], [], [], [5, 6], [5, 6, 7], [5, 6, 7, 8], [], [5, 6, 7, 8, 9, 10], [0, 1, 2, 3, 4, 5, 6, 7, 8, 9, 10, 11], [0, 1, 2, 3, 4, 5, 6, 7, 8, 9, 10, 11, 12], [0, 1, 2, 3, 4, 5, 6, 7, 8, 9, 10, 11, 12, 13], [0, 1, 2, 3, 4, 5, 6, 7, 8, 9, 10, 11, 12, 13], [0, 1, 2, 3, 4, 5, 6, 7, 8, 9, 10, 11, 12, 13, 14, 15], [0, 1, 2, 3, 4, 5, 6, 7, 8, 9, 10, 11, 12, 13, 14, 15, 16], [0, 1, 2, 3, 4, 5, 6, 7, 8, 9, 10, 11, 12, 13, 14, 15, 16, 17], [0, 1, 2, 3, 4, 5, 6, 7, 8, 9, 10, 11, 12, 13], [0, 1, 2, 3, 4, 5, 6, 7, 8, 9, 10, 11, 12, 13], [0, 1, 2, 3, 4, 5, 6, 7, 8, 9, 10, 11, 12, 13, 19, 20], [0, 1, 2, 3, 4, 5, 6, 7, 8, 9, 10, 11, 12, 13, 19, 20, 21], [0, 1, 2, 3, 4, 5, 6, 7, 8, 9, 10, 11, 12, 13, 19, 20, 21, 22], [0, 1, 2, 3, 4, 5, 6, 7, 8, 9, 10, 11, 12, 13, 14, 15, 16, 17, 18, 19, 20, 21, 22, 23], [0, 1, 2, 3, 4, 5, 6, 7, 8, 9, 10, 11, 12, 13, 14, 15, 16, 17, 18, 19, 20, 21, 22, 23, 24]] (by kernel_rfl) (by kernel_rfl) ?_) | (refine WL.block ?_) | (refine WL.skip ?_) | (refine kCond ?_; first | (refine WL.condT' rfl ?_ ?_; (focus (first | (simp only [decide_eq_true_eq, decide_eq_false_iff_not, Bool.not_eq_true', Bool.not_eq_false', Int.ofNat_lt, Int.ofNat_le, Int.ofNat_inj, not_true_eq_false, not_false_eq_true]; omega)))) | (refine WL.condF' rfl ?_ ?_; (focus (first | (simp <;> fail))))))
          | (refine kDr ?_; first | (refine LDr.nil ?_) | (refine LDr.fl rfl rfl (.ev tT_ok rfl) ?_) | (refine LDr.gT rfl rfl rfl rfl rfl (.ev tT_ok rfl) ?_) | (refine kDBin rfl ?_; first | (refine LDr.fl rfl rfl (AnsL.add rfl rfl ?_) ?_; (focus (constructor <;> omega)))) | (refine kDIdx rfl ?_; first | (refine LDr.fl rfl rfl (AnsL.idx tT_ok rfl rfl rfl rfl rfl hga rfl rfl) ?_) | (refine LDr.gT rfl rfl rfl rfl rfl (AnsL.idx tT_ok rfl rfl rfl rfl rfl hga rfl rfl) ?_) | (refine LDr.fl rfl rfl (AnsL.idx tT_ok rfl rfl rfl rfl rfl hgb rfl rfl) ?_) | (refine LDr.gT rfl rfl rfl rfl rfl (AnsL.idx tT_ok rfl rfl rfl rfl rfl hgb rfl rfl) ?_)) | (refine LDr.gD false rfl rfl rfl rfl ?_ ?_; (focus (first | (simp <;> fail)))))
          | (refine lthen_n ?_)
          | (refine lblock_n ?_)
        refine lbackH.of (i + 1) ?_ hh (Sel.refl _) hlt ?_
        · exact ⟨rfl, rfl, rfl, rfl, rfl, rfl, trivial⟩
        · try dsimp only
          omega
      · cases hcy : Y.eqB X
        · rw [hcy] at hSY
          by_cases h9 : k ≤ 900
          · have hSZ2 := hSZ h9 hcy
            repeat' first
              | (refine kOps ?_; first | (refine LOps.nil ?_) | (refine LOps.ev tT_ok rfl ?_) | (refine kLen ?_; first | (refine LOps.ans (AnsL.lenM tT_ok rfl rfl rfl) ?_)))
              | (refine kWL ?_; first | (refine WL.seq ?_) | (refine WL.region (by kernel_rfl) ?_) | (refine WL.drawn (id := 18) [0, 1, 2, 3] [] [[], [0], [], [0, 1, 2]] (by kernel_rfl) (by kernel_rfl) ?_) | (refine WL.drawn (id := 20) [0, 1, 2, 3, 4, 5, 6, 7, 8, 9, 10, 11] [] [[], [0], [0, 1], [0, 1, 2], [0, 1, 2, 3], [0, 1, 2], [0, 1, 2], [0, 1, 2, 6], [0, 1, 2, 3, 4, 5, 6, 7], [0, 1, 2, 3, 4, 5, 6, 7, 8], [0, 1, 2, 3, 4, 5, 6, 7, 8, 9], [0, 1, 2, 3, 4, 5, 6, 7, 8, 9, 10]] (by kernel_rfl) (by kernel_rfl) ?_) | (refine WL.exit ?_) | (refine WL.skip ?_) | (refine WL.ret ?_) | (refine kCond ?_; first | (refine WL.condF rfl ?_) | (refine WL.condF' rfl ?_ ?_; (focus (first | (simp only [decide_eq_true_eq, decide_eq_false_iff_not, Bool.not_eq_true', Bool.not_eq_false', Int.ofNat_lt, Int.ofNat_le, Int.ofNat_inj, not_true_eq_false, not_false_eq_true]; omega))))))
              | (refine kDr ?_; first | (refine LDr.nil ?_) | (refine LDr.fl rfl rfl (.ev tT_ok rfl) ?_) | (refine LDr.gT rfl rfl rfl rfl rfl (.ev tT_ok rfl) ?_) | (refine kDLoad rfl ?_; first | (refine LDr.fl rfl rfl (AnsL.loadH tT_ok 0 hh rfl rfl rfl rfl) ?_) | (refine LDr.gT rfl rfl rfl rfl rfl (AnsL.loadH tT_ok 0 hh rfl rfl rfl rfl) ?_) | (refine LDr.gT rfl rfl rfl rfl rfl (AnsL.loadH tT_ok 1 hh rfl rfl rfl rfl) ?_)) | (refine kDBin rfl ?_; first | (refine LDr.gT rfl rfl rfl rfl rfl (AnsL.add rfl rfl ?_) ?_; (focus (constructor <;> omega)))) | (refine kDCallN 10 rfl ?_; first | (refine LDr.gT rfl rfl rfl rfl rfl (AnsL.callP rfl rfl rfl (ok10) (hL3i _)) ?_)) | (refine kDCallN 11 rfl ?_; first | (refine LDr.fl rfl rfl (AnsL.callP rfl rfl rfl (ok11) (hSY _)) ?_) | (refine LDr.gT rfl rfl rfl rfl rfl (AnsL.callP rfl rfl rfl (ok11) (hSZ2 _)) ?_)) | (refine kDCallN 12 rfl ?_; first | (refine LDr.fl rfl rfl (AnsL.callP rfl rfl rfl (ok12) (hL3s _)) ?_) | (refine LDr.gT rfl rfl rfl rfl rfl (AnsL.callP rfl rfl rfl (ok12) (hLe3 _)) ?_)) | (refine LDr.gD false rfl rfl rfl rfl ?_ ?_; (focus (first | (simp only [decide_eq_true_eq, decide_eq_false_iff_not, Bool.not_eq_true', Bool.not_eq_false', Int.ofNat_lt, Int.ofNat_le, Int.ofNat_inj, not_true_eq_false, not_false_eq_true]; omega)))))
              | (refine lthen_n ?_)
              | (refine lthen_e ?_)
              | (refine lblock_e ?_)
              | (refine lbackH_e ?_)
              | (refine LPost.r1 (r := .tmp 2) (.inl rfl) (Res1.tmp rfl) ?_)
            rfl
          · skip
            repeat' first
              | (refine kOps ?_; first | (refine LOps.nil ?_) | (refine LOps.ev tT_ok rfl ?_) | (refine kLen ?_; first | (refine LOps.ans (AnsL.lenM tT_ok rfl rfl rfl) ?_)))
              | (refine kWL ?_; first | (refine WL.seq ?_) | (refine WL.region (by kernel_rfl) ?_) | (refine WL.drawn (id := 18) [0, 1, 2, 3] [] [[], [0], [], [0, 1, 2]] (by kernel_rfl) (by kernel_rfl) ?_) | (refine WL.drawn (id := 20) [0, 1, 2, 3, 4, 5, 6, 7, 8, 9, 10, 11] [] [[], [0], [0, 1], [0, 1, 2], [0, 1, 2, 3], [0, 1, 2], [0, 1, 2], [0, 1, 2, 6], [0, 1, 2, 3, 4, 5, 6, 7], [0, 1, 2, 3, 4, 5, 6, 7, 8], [0, 1, 2, 3, 4, 5, 6, 7, 8, 9], [0, 1, 2, 3, 4, 5, 6, 7, 8, 9, 10]] (by kernel_rfl) (by kernel_rfl) ?_) | (refine WL.exit ?_) | (refine WL.skip ?_) | (refine WL.ret ?_) | (refine kCond ?_; first | (refine WL.condF rfl ?_) | (refine WL.condF' rfl ?_ ?_; (focus (first | (simp only [decide_eq_true_eq, decide_eq_false_iff_not, Bool.not_eq_true', Bool.not_eq_false', Int.ofNat_lt, Int.ofNat_le, Int.ofNat_inj, not_true_eq_false, not_false_eq_true]; omega))))))
              | (refine kDr ?_; first | (refine LDr.nil ?_) | (refine LDr.fl rfl rfl (.ev tT_ok rfl) ?_) | (refine LDr.gF rfl rfl rfl rfl rfl ?_) | (refine kDLoad rfl ?_; first | (refine LDr.fl rfl rfl (AnsL.loadH tT_ok 0 hh rfl rfl rfl rfl) ?_)) | (refine kDCallN 11 rfl ?_; first | (refine LDr.fl rfl rfl (AnsL.callP rfl rfl rfl (ok11) (hSY _)) ?_)) | (refine kDCallN 12 rfl ?_; first | (refine LDr.fl rfl rfl (AnsL.callP rfl rfl rfl (ok12) (hL3s _)) ?_)) | (refine LDr.gD true rfl rfl rfl rfl ?_ ?_; (focus (first | (simp only [decide_eq_true_eq, decide_eq_false_iff_not, Bool.not_eq_true', Bool.not_eq_false', Int.ofNat_lt, Int.ofNat_le, Int.ofNat_inj, not_true_eq_false, not_false_eq_true]; omega)))))
              | (refine lthen_n ?_)
              | (refine lthen_e ?_)
              | (refine lblock_e ?_)
              | (refine lbackH_e ?_)
              | (refine LPost.r1 (r := .tmp 2) (.inl rfl) (Res1.tmp rfl) ?_)
            rfl
        · rw [hcy] at hSY
          repeat' first
            | (refine kOps ?_; first | (refine LOps.nil ?_) | (refine LOps.ev tT_ok rfl ?_) | (refine kLen ?_; first | (refine LOps.ans (AnsL.lenM tT_ok rfl rfl rfl) ?_)))
            | (refine kWL ?_; first | (refine WL.seq ?_) | (refine WL.region (by kernel_rfl) ?_) | (refine WL.drawn (id := 18) [0, 1, 2, 3] [] [[], [0], [], [0, 1, 2]] (by kernel_rfl) (by kernel_rfl) ?_) | (refine WL.exit ?_) | (refine WL.ret ?_) | (refine kCond ?_; first | (refine WL.condT rfl ?_) | (refine WL.condF' rfl ?_ ?_; (focus (first | (simp only [decide_eq_true_eq, decide_eq_false_iff_not, Bool.not_eq_true', Bool.not_eq_false', Int.ofNat_lt, Int.ofNat_le, Int.ofNat_inj, not_true_eq_false, not_false_eq_true]; omega))))))
            | (refine kDr ?_; first | (refine LDr.nil ?_) | (refine kDLoad rfl ?_; first | (refine LDr.fl rfl rfl (AnsL.loadH tT_ok 0 hh rfl rfl rfl rfl) ?_)) | (refine kDCallN 11 rfl ?_; first | (refine LDr.fl rfl rfl (AnsL.callP rfl rfl rfl (ok11) (hSY _)) ?_)) | (refine kDCallN 12 rfl ?_; first | (refine LDr.fl rfl rfl (AnsL.callP rfl rfl rfl (ok12) (hL3s _)) ?_)))
            | (refine lthen_n ?_)
            | (refine lthen_r ?_)
            | (refine lthen_e ?_)
            | (refine lblock_e ?_)
            | (refine lbackH_e ?_)
            | (refine LPost.r1 (r := .tmp 2) (.inl rfl) (Res1.tmp rfl) ?_)
          rfl
    · rw [hcs] at hSe
      generalize liftTop e k = X at hLi hLs hSX hFx hSe hAl
      generalize freeTop X 0 = B at hFx hAl
      generalize freeTop e 0 = A at hFe hCl hAl hlen
      generalize (e.col varAt 0).length = nC at hC hCl hlc
      repeat' first
        | (refine kAlloc ?_ ; refine LOps.allocH tT_ok hh rfl rfl ?_ ; intro s n hh)
        | (refine kStore ?_ ; first | (refine LOps.storeH tT_ok 0 hh rfl rfl rfl rfl rfl rfl rfl rfl rfl ?_ ; intro s hh))
        | (refine kOps ?_; first | (refine LOps.nil ?_) | (refine kG ?_; first | (refine LOps.gT rfl rfl rfl ?_) | (refine LOps.gD false rfl rfl rfl ?_ ?_; (focus (first | (simp only [decide_eq_true_eq, decide_eq_false_iff_not, Bool.not_eq_true', Bool.not_eq_false', Int.ofNat_lt, Int.ofNat_le, Int.ofNat_inj, not_true_eq_false, not_false_eq_true]; omega))))) | (refine LOps.ev tT_ok rfl ?_) | (refine kLoad ?_; first | (refine LOps.ans (AnsL.loadH tT_ok 0 hh rfl rfl rfl rfl) ?_) | (refine LOps.ans (AnsL.loadH tT_ok 1 hh rfl rfl rfl rfl) ?_)) | (refine kLen ?_; first | (refine LOps.ans (AnsL.lenM tT_ok rfl rfl rfl) ?_)) | (refine kCallN 10 ?_; first | (refine LOps.ans (AnsL.callP rfl rfl rfl (ok10) (hLi _)) ?_)) | (refine kCallN 11 ?_; first | (refine LOps.ans (AnsL.callP rfl rfl rfl (ok11) (hSe _)) ?_)) | (refine kCallN 13 ?_; first | (refine LOps.ans (AnsL.callP rfl rfl rfl (ok13) (hFe _)) ?_) | (refine LOps.ans (AnsL.callP rfl rfl rfl (ok13) (hFx _)) ?_)) | (refine kCallN 14 ?_; first | (refine LOps.ans (AnsL.callP rfl rfl rfl (ok14) (hC _)) ?_)))
        | (refine kWL ?_; first | (refine WL.seq ?_) | (refine WL.region (by kernel_rfl) ?_) | (refine WL.drawn (id := 5) [0, 1, 2, 3, 4, 5] [] [[], [], [], [1, 2], [0, 1, 2, 3], [0, 1, 2, 3, 4]] (by kernel_rfl) (by kernel_rfl) ?_) | (refine WL.skip ?_) | (refine WL.ret ?_) | (refine kCond ?_; first | (refine WL.condT rfl ?_) | (refine WL.condF rfl ?_) | (refine WL.condF' rfl ?_ ?_; (focus (first | (simp only [decide_eq_true_eq, decide_eq_false_iff_not, Bool.not_eq_true', Bool.not_eq_false', Int.ofNat_lt, Int.ofNat_le, Int.ofNat_inj, not_true_eq_false, not_false_eq_true]; omega))))))
        | (refine kDr ?_; first | (refine LDr.nil ?_) | (refine LDr.fl rfl rfl (.ev tT_ok rfl) ?_) | (refine kDLoad rfl ?_; first | (refine LDr.fl rfl rfl (AnsL.loadH tT_ok 0 hh rfl rfl rfl rfl) ?_) | (refine LDr.fl rfl rfl (AnsL.loadH tT_ok 1 hh rfl rfl rfl rfl) ?_)) | (refine kDCallN 11 rfl ?_; first | (refine LDr.fl rfl rfl (AnsL.callP rfl rfl rfl (ok11) (hSX _)) ?_)) | (refine kDCallN 12 rfl ?_; first | (refine LDr.fl rfl rfl (AnsL.callP rfl rfl rfl (ok12) (hLs _)) ?_)))
        | (refine lthen_n ?_)
        | (refine lthen_r ?_)
        | (refine LPost.r1 (r := .tmp 2) (.inl rfl) (Res1.tmp rfl) ?_)
      rfl
  · skip
    repeat' first
      | (refine kOps ?_; first | (refine LOps.nil ?_) | (refine LOps.ev tT_ok rfl ?_) | (refine kCallN 8 ?_; first | (refine LOps.ans (AnsL.callP rfl rfl rfl (ok8) (hbig _)) ?_)))
      | (refine kWL ?_; first | (refine WL.seq ?_) | (refine WL.region (by kernel_rfl) ?_) | (refine WL.ret ?_) | (refine kCond ?_; first | (refine WL.condT rfl ?_)))
      | (refine lthen_n ?_)
      | (refine lthen_r ?_)
      | (refine LPost.r1 (r := .tmp 2) (.inl rfl) (Res1.tmp rfl) ?_)
    rfl

end Go.Proofs.Ytolhegocbkckdaa
