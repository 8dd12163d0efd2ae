/-
  Copies of plans' trees by the program and by the reference. Own work; no condition.
-/
import Derived.Test.YtolhegocbkckdaaDCopy
namespace Go.Proofs.Ytolhegocbkckdaa
open Go
set_option linter.unusedSimpArgs false
set_option linter.unusedVariables false

set_option maxHeartbeats 4000000 in
theorem mapInside_o (e : PE) (F G : PE → PE) (g1 g2 : FuncId) (c1 c2 : List V) (hg1 : CallOk Try.prog g1) (hg2 : CallOk Try.prog g2) (hc1 : OkCaps c1) (hc2 : OkCaps c2) (hw : wgt e.v ≤ 1048576) (ih1 : ∀ k ∈ e.kids, ToG Try.prog g1 c1 k.v (F k).v)
    (ih2 : ∀ p ∈ e.sub, ∀ k ∈ p.parts, ToG Try.prog g2 c2 k.v (G k).v) (s : S) : VCalls Try.prog 78 [e.v, .fn g1 c1, .fn g2 c2] s (fun v t => Own2 (PE.mk e.kind e.op e.nt e.value e.up e.pos (e.kids.map F) (e.sub.map (PL.map G))).v v t) := by
  have hh : Hold s s.next [] := .start _ _
  have hwe := PE.wgt_eq2 e
  have l1 := wgt_len PE.toV e.kids
  have l2 := wgt_len PE.planV e.sub
  have hq1 := fun s => mapPExprs_o e.kids F g1 c1 hg1 hc1 (by omega) ih1 s
  refine LCalls.body Try.func78 rfl (by kernel_rfl) ?_
  repeat' first
    | (refine kBox ?_ ; first | (refine LOps.boxH hh rfl rfl ?_ ; intro s n hh))
    | (refine kAlloc ?_ ; refine LOps.allocH tT_ok hh rfl rfl ?_ ; intro s n hh)
    | (refine kStore ?_ ; first | (refine LOps.storeHS tT_ok 2 hh rfl rfl rfl rfl rfl rfl rfl rfl ?_ ; intro s hh))
    | (refine kCallN 89 ?_ ; refine LOps.lendC rfl rfl rfl ok89 hh (.cons (.pl (plain_PExprS e.kids)) (.cons (.fn (hc1 _)) .nil)) (fun t => hq1 t) (plain_PExprS _) ?_ ; intro s n hh)
    | (refine kOps ?_; first | (refine LOps.nil ?_) | (refine LOps.ev tT_ok rfl ?_) | (refine kBsl ?_; first | (refine LOps.bsl0 tT_ok rfl rfl rfl rfl rfl ?_)) | (refine kLoad ?_; first | (refine LOps.ans (AnsL.loadH tT_ok 1 hh rfl rfl rfl rfl) ?_) | (refine LOps.ans (AnsL.loadH tT_ok 2 hh rfl rfl rfl rfl) ?_)) | (refine kLen ?_; first | (refine LOps.ans (AnsL.lenM tT_ok rfl rfl rfl) ?_)))
    | (refine kWL ?_; first | (refine WL.seq ?_) | (refine WL.region (by kernel_rfl) ?_) | (refine WL.block ?_))
    | (refine lthen_n ?_)
  rename Nat => nk
  rename_i s0 hh0 s1 nE hh1 s2 hh2 s3 hh3
  refine WL.zfamH (t := 7) 8 rfl rfl hh (fun s id hh => ?_)
  refine WL.loopH (fun y : Nat × List V × List V => e.sub.length - y.1) (fun y => [(2, .fn g2 c2), (3, .ptr nE 0), (6, .ptr n 0), (7, .sl id y.2.1), (17, .sl 0 (e.sub.map PE.planV)), (18, .int .i64 (e.sub.length : Nat)), (19, .int .i64 (y.1 : Int))])
    (fun y => [.acc id 8 y.2.1 y.2.2, .cell nE [.int .i64 e.kind, .int .i64 e.op, .bool e.nt, .int .i64 e.value.kind, .int .i64 e.value.num, .str e.value.text, .int .i64 e.up, .int .i64 e.pos, (thw nk (.sl 0 ((e.kids.map F).map PE.toV))).1, .sl 0 (e.sub.map PE.planV)],
      .cell n [.int .i64 0, .int .i64 0, .bool false, .int .i64 0, .int .i64 0, .str [], .int .i64 0, .int .i64 0, .nilsl, .nilsl], .blk nk (.sl 0 ((e.kids.map F).map PE.toV))])
    (fun y => y.1 ≤ e.sub.length ∧ y.2.2 = ((e.sub.take y.1).map (PL.map G)).map PE.planV) (0, [], []) ⟨by simp, by simp⟩ ⟨rfl, rfl, rfl, rfl, rfl, rfl, rfl, trivial⟩ hh (by (repeat' first | (exact Sel.nil) | (exact Sel.refl _) | (refine' Sel.p ?_ ?_; rotate_left 1; (focus (((repeat' first | (exact Pick.here) | (refine' Pick.there ?_)); done)))))) (fun y s hI hh => ?_)
  obtain ⟨i, us, ds⟩ := y
  obtain ⟨hi, hd⟩ := hI
  dsimp only at hi hd hh ⊢
  have hus := hh.accLen 0 rfl
  have hdl : ds.length = i := by rw [hd]; simp; omega
  rcases Nat.lt_or_ge i e.sub.length with hlt | hge
  · have hga : (e.sub.map PE.planV)[i]? = some (PL.v e.sub[i]) := by rw [List.getElem?_map, List.getElem?_eq_getElem hlt]; simp only [Option.map_some, PE.planV_eq]
    have hst := map_take2 PE.planV (PL.map G) hlt
    rw [← hd, PE.planV_eq] at hst
    have hwp : wgt (PL.v e.sub[i]) ≤ 1048576 := Nat.le_trans (PE.wgt_sub (List.getElem_mem hlt)) hw
    have hE := fun s => mapPlan_o e.sub[i] G g2 c2 hg2 hc2 hwp (ih2 _ (List.getElem_mem hlt)) s
    generalize e.sub[i] = x at hga hst hE
    repeat' first
      | (refine kAlloc ?_ ; refine LOps.allocH tT_ok hh rfl rfl ?_ ; intro s n hh)
      | (refine kStore ?_ ; first | (refine LOps.storeH tT_ok 0 hh rfl rfl rfl rfl rfl rfl rfl rfl rfl ?_ ; intro s hh))
      | (refine kBsl ?_ ; refine' LOps.bslH tT_ok rfl rfl rfl rfl rfl rfl rfl rfl hh ?_ ?_ ?_ ; rotate_left 2 ; (focus ((repeat' first | (exact ConsL.nil) | (refine' Cons.bp ?_; ((repeat' first | (exact Pick.here)); done)) | (refine' ConsL.cons ?_ ?_)); done)) ; (focus ((repeat' first | (exact ElsH.of rfl)); done)) ; intro s n hh)
      | (refine kApp ?_ ; first | (refine' LOps.appH tT_ok 2 rfl rfl rfl rfl rfl rfl rfl rfl rfl rfl hh ?_ ?_ (AppB.ofW ?_ rfl) ?_ ; rotate_left 3 ; (focus (first | (refine' ConsSp.ap ?_; ((repeat' first | (exact Pick.here)); done)))) ; (focus ((repeat' first | (exact Elems.nil) | (refine Elems.ct rfl rfl ?_)); done)) ; (focus (first | omega | (simp ; omega))) ; intro s hh))
      | (refine kCallN 123 ?_ ; refine LOps.lendC rfl rfl rfl ok123 hh (.cons (.pl (PL.plain x)) (.cons (.fn (hc2 _)) .nil)) (fun t => hE t) (PL.plain _) ?_ ; intro s n hh)
      | (refine kOps ?_; first | (refine LOps.nil ?_) | (refine LOps.ev tT_ok rfl ?_) | (refine kLoad ?_; first | (refine LOps.ans (AnsL.loadH tT_ok 0 hh rfl rfl rfl rfl) ?_)) | (refine kBin ?_; first | (refine LOps.ans (AnsL.add rfl rfl ?_) ?_; (focus (constructor <;> omega)))) | (refine kIdx ?_; first | (refine LOps.ans (AnsL.idx tT_ok rfl rfl rfl rfl rfl hga rfl rfl) ?_)))
      | (refine kWL ?_; first | (refine WL.seq ?_) | (refine WL.region (by kernel_rfl) ?_) | (refine WL.block ?_) | (refine WL.skip ?_) | (refine kCond ?_; first | (refine WL.condT' rfl ?_ ?_; (focus (first | (simp only [decide_eq_true_eq, decide_eq_false_iff_not, Bool.not_eq_true', Bool.not_eq_false', Int.ofNat_lt, Int.ofNat_le, Int.ofNat_inj, not_true_eq_false, not_false_eq_true]; omega))))))
      | (refine lthen_n ?_)
      | (refine lblock_n ?_)
    all_goals
      refine' lbackH.of ((i + 1, _, ds ++ [(PL.map G x).v])) ?_ hh ?_ ?_ ?_
      rotate_left 1
      · repeat' first | exact SubL.nil | (refine SubL.mk rfl ?_ ?_) | rfl | (simp [hst] <;> fail) | (simp [hst]; omega)
      · first | ((repeat' first | (exact Sel.nil) | (exact Sel.refl _) | (refine' Sel.p ?_ ?_; rotate_left 1; (focus (((repeat' first | (exact Pick.here) | (refine' Pick.there ?_)); done))))); done) | (dsimp only; simp only [List.map_append, List.map_cons, List.map_nil]; (repeat' first | (exact Sel.nil) | (exact Sel.refl _) | (refine' Sel.p ?_ ?_; rotate_left 1; (focus (((repeat' first | (exact Pick.here) | (refine' Pick.there ?_)); done))))); done) | (dsimp only; simp only [List.map_append, List.map_cons, List.map_nil, hst]; (repeat' first | (exact Sel.nil) | (exact Sel.refl _) | (refine' Sel.p ?_ ?_; rotate_left 1; (focus (((repeat' first | (exact Pick.here) | (refine' Pick.there ?_)); done))))); done)
      · dsimp only; repeat' first | omega | assumption | (refine And.intro ?_ ?_) | rfl | (simp [hst] <;> fail) | (simp [hst]; omega) | (simp_all [hst] <;> fail) | (simp_all [hst]; omega)
      · dsimp only; first | omega | (simp; omega) | (simp_all; omega)
  have e1 : i = e.sub.length := by omega
  subst e1
  rw [List.take_length] at hd
  subst hd
  repeat' first
    | (refine kStore ?_ ; first | (refine LOps.storeH tT_ok 1 hh rfl rfl rfl rfl rfl rfl rfl rfl rfl ?_ ; intro s hh) | (refine LOps.storeH tT_ok 2 hh rfl rfl rfl rfl rfl ?_ rfl rfl rfl ?_ ; (focus (repeat' first | (exact rfl) | (refine ones_cons (thw_one _ _ _) ?_) | (refine ones_cons rfl ?_))) ; intro s hh))
    | (refine kOps ?_; first | (refine LOps.nil ?_) | (refine LOps.ev tT_ok rfl ?_) | (refine kLoad ?_; first | (refine LOps.ans (AnsL.loadH tT_ok 1 hh rfl rfl rfl rfl) ?_)))
    | (refine kWL ?_; first | (refine WL.seq ?_) | (refine WL.region (by kernel_rfl) ?_) | (refine WL.exit ?_) | (refine WL.ret ?_) | (refine kCond ?_; first | (refine WL.condF' rfl ?_ ?_; (focus (first | (simp only [decide_eq_true_eq, decide_eq_false_iff_not, Bool.not_eq_true', Bool.not_eq_false', Int.ofNat_lt, Int.ofNat_le, Int.ofNat_inj, not_true_eq_false, not_false_eq_true]; omega))))))
    | (refine lthen_n ?_)
    | (refine lthen_e ?_)
    | (refine lblock_e ?_)
    | (refine lbackH_e ?_)
    | (refine' LPost.r1 (r := .cell 6 29) (.inl rfl) ?_ ?_; rotate_left 1; (focus (first | exact Res1.cellH 0 tT_ok hh rfl rfl rfl rfl | exact Res1.cellH 1 tT_ok hh rfl rfl rfl rfl | exact Res1.cellH 2 tT_ok hh rfl rfl rfl rfl | exact Res1.cellH 3 tT_ok hh rfl rfl rfl rfl | exact Res1.cellH 4 tT_ok hh rfl rfl rfl rfl | exact Res1.cellH 5 tT_ok hh rfl rfl rfl rfl | exact Res1.cellH 6 tT_ok hh rfl rfl rfl rfl | exact Res1.cellH 7 tT_ok hh rfl rfl rfl rfl | exact Res1.cellHW 0 tT_ok hh rfl rfl rfl rfl | exact Res1.cellHW 1 tT_ok hh rfl rfl rfl rfl | exact Res1.cellHW 2 tT_ok hh rfl rfl rfl rfl | exact Res1.cellHW 3 tT_ok hh rfl rfl rfl rfl | exact Res1.cellHW 4 tT_ok hh rfl rfl rfl rfl | exact Res1.cellHW 5 tT_ok hh rfl rfl rfl rfl | exact Res1.cellHW 6 tT_ok hh rfl rfl rfl rfl | exact Res1.cellHW 7 tT_ok hh rfl rfl rfl rfl)))
  exact Own2.ofH hh (by ((repeat' first | (exact ConsL.nil) | (exact Cons.zsl) | (exact Cons.nilsl) | (refine' Cons.bp ?_; ((repeat' first | (exact Pick.here) | (refine' Pick.there ?_)); done)) | (refine' Cons.ap ?_; ((repeat' first | (exact Pick.here) | (refine' Pick.there ?_)); done)) | (exact Cons.blk 0 rfl rfl rfl) | (exact Cons.blk 1 rfl rfl rfl) | (exact Cons.blk 2 rfl rfl rfl) | (exact Cons.blk 3 rfl rfl rfl) | (exact Cons.blk 4 rfl rfl rfl) | (exact Cons.blk 5 rfl rfl rfl) | (exact Cons.pl rfl rfl) | (exact Cons.pl (by assumption) (by assumption)) | (refine' ConsL.cons ?_ ?_) | (exact ConsL.pls rfl rfl) | (exact ConsL.pls (by assumption) (by assumption)) | (refine' Cons.agg ?_)); done))
theorem OkCaps.nil : OkCaps [] := fun _ => .nil
theorem PL.map_id (p : PL) : PL.map (fun x => x) p = p := by
  obtain ⟨t, on, w, o, i, n, d, l⟩ := p
  simp only [PL.map, PlanOf.mk.injEq, true_and, and_true]
  refine ⟨?_, ?_, ?_, ?_⟩
  · conv => rhs; rw [← List.map_id on]
    exact List.map_congr_left fun l _ => List.map_id' l
  · exact List.map_id' w
  · exact List.map_id' o
  · exact List.map_id' i
theorem implCopy_c (e : PE) : wgt e.v ≤ 1048576 → ToC Try.prog 31 e.v := by
  induction e using PE.ind with
  | h e ih1 ih2 =>
    intro hw t
    have hh : Hold t t.next [] := .start _ _
    have hm := fun s => mapInside_o e (fun x => x) (fun x => x) 31 31 [] [] ok31 ok31 .nil .nil hw (fun k hk => ih1 k hk (Nat.le_trans (PE.wgt_kid hk) hw)) (fun p hp k hk => ih2 p hp k hk (Nat.le_trans (PL.wgt_part2 hk) (Nat.le_trans (PE.wgt_sub hp) hw))) s
    have he : PE.mk e.kind e.op e.nt e.value e.up e.pos (e.kids.map (fun x => x)) (e.sub.map (PL.map (fun x => x))) = e := by
      have e2 : PL.map (fun x => x) = fun p : PL => p := funext PL.map_id
      rw [e2, List.map_id', List.map_id']
      cases e; rfl
    rw [he] at hm
    refine LCalls.body Try.func31 rfl (by kernel_rfl) ?_
    repeat' first
      | (refine kBox ?_ ; first | (refine LOps.boxH hh rfl rfl ?_ ; intro s n hh))
      | (refine kAlloc ?_ ; refine LOps.allocH tT_ok hh rfl rfl ?_ ; intro s n hh)
      | (refine kStore ?_ ; first | (refine LOps.storeHW tT_ok 1 hh rfl rfl rfl rfl rfl rfl rfl ?_ ; intro s hh))
      | (refine kCallN 78 ?_ ; refine LOps.lendC rfl rfl rfl ok78 hh (.cons (.pl (PE.plainv e)) (.cons (.fn .nil) (.cons (.fn .nil) .nil))) (fun t => hm t) (PE.plainv _) ?_ ; intro s n hh)
      | (refine kOps ?_; first | (refine LOps.nil ?_) | (refine kLoad ?_; first | (refine LOps.ans (AnsL.loadH tT_ok 1 hh rfl rfl rfl rfl) ?_)))
      | (refine kWL ?_; first | (refine WL.seq ?_) | (refine WL.region (by kernel_rfl) ?_) | (refine WL.ret ?_))
      | (refine lthen_n ?_)
      | (refine' LPost.r1 (r := .cell 2 29) (.inl rfl) ?_ ?_; rotate_left 1; (focus (first | exact Res1.cellH 0 tT_ok hh rfl rfl rfl rfl | exact Res1.cellH 1 tT_ok hh rfl rfl rfl rfl | exact Res1.cellH 2 tT_ok hh rfl rfl rfl rfl | exact Res1.cellH 3 tT_ok hh rfl rfl rfl rfl | exact Res1.cellH 4 tT_ok hh rfl rfl rfl rfl | exact Res1.cellH 5 tT_ok hh rfl rfl rfl rfl | exact Res1.cellH 6 tT_ok hh rfl rfl rfl rfl | exact Res1.cellH 7 tT_ok hh rfl rfl rfl rfl | exact Res1.cellHW 0 tT_ok hh rfl rfl rfl rfl | exact Res1.cellHW 1 tT_ok hh rfl rfl rfl rfl | exact Res1.cellHW 2 tT_ok hh rfl rfl rfl rfl | exact Res1.cellHW 3 tT_ok hh rfl rfl rfl rfl | exact Res1.cellHW 4 tT_ok hh rfl rfl rfl rfl | exact Res1.cellHW 5 tT_ok hh rfl rfl rfl rfl | exact Res1.cellHW 6 tT_ok hh rfl rfl rfl rfl | exact Res1.cellHW 7 tT_ok hh rfl rfl rfl rfl)))
    exact Own2.ofH hh (by ((repeat' first | (exact ConsL.nil) | (exact Cons.zsl) | (exact Cons.nilsl) | (refine' Cons.bp ?_; ((repeat' first | (exact Pick.here) | (refine' Pick.there ?_)); done)) | (refine' Cons.ap ?_; ((repeat' first | (exact Pick.here) | (refine' Pick.there ?_)); done)) | (exact Cons.blk 0 rfl rfl rfl) | (exact Cons.blk 1 rfl rfl rfl) | (exact Cons.blk 2 rfl rfl rfl) | (exact Cons.blk 3 rfl rfl rfl) | (exact Cons.blk 4 rfl rfl rfl) | (exact Cons.blk 5 rfl rfl rfl) | (exact Cons.pl rfl rfl) | (exact Cons.pl (by assumption) (by assumption)) | (refine' ConsL.cons ?_ ?_) | (exact ConsL.pls rfl rfl) | (exact ConsL.pls (by assumption) (by assumption)) | (refine' Cons.agg ?_)); done))

end Go.Proofs.Ytolhegocbkckdaa
