/-
  Copies of plans' trees and plans; maps over their parts. Own work; no condition.
-/
import Derived.Test.YtolhegocbkckdaaDCow
import Derived.Test.YtolhegocbkckdaaDLiftDef
namespace Go.Proofs.Ytolhegocbkckdaa
open Go
set_option linter.unusedSimpArgs false
set_option linter.unusedVariables false

theorem Hold.sv {s : S} {H : List BE} {b n : Nat} {x : PE} (c : Bool) (h : Hold s b (.blk n x.v :: H)) : Hold s b (.blk n (PE.sv (x, c)) :: H) :=
  h.reblk (by simp only [PE.sv, PE.v, cv, cvL, Nat.add_zero]) (PE.plains _) (by simp only [PE.sv, PE.v, thw_agg, thwL_int, thwL_str, thwL_bool, thwL_sl, thwL_nil])
theorem map_take2 {α β γ : Type} (f : β → γ) (g : α → β) {l : List α} {i : Nat} (h : i < l.length) : ((l.take (i + 1)).map g).map f = ((l.take i).map g).map f ++ [f (g l[i])] := by
  rw [List.take_succ_eq_append_getElem h, List.map_append, List.map_append]
  rfl
theorem cloneInt_o (l : List Int) (h : l.length ≤ 1048576) (s : S) : VCalls Try.prog 111 [.sl 0 (l.map iV)] s (fun v t => Own2 (.sl 0 (l.map iV)) v t) := by
  refine LCalls.body Try.func111 rfl (by kernel_rfl) ?_
  repeat' first
    | (refine WL.regionNil tT_ok rfl rfl rfl rfl (fun b hb => ?_) ; cases b)
    | (refine kOps ?_; first | (refine LOps.nil ?_) | (refine LOps.ev tT_ok rfl ?_) | (refine kBsl ?_; first | (refine LOps.bsl0 tT_ok rfl rfl rfl rfl rfl ?_)) | (refine kApp ?_; first | (refine LOps.app0 tT_ok rfl rfl rfl rfl rfl rfl rfl rfl rfl rfl rfl ?_ (AppB.of ?_ rfl) ?_; (focus (first | exact Elems.of rfl | exact Elems.map fun _ => rfl | exact PE.els _ (fun _ => rfl) _)); (focus (first | omega | (simp; omega))))))
    | (refine kWL ?_; first | (refine WL.seq ?_) | (refine WL.region (by kernel_rfl) ?_) | (refine WL.skip ?_) | (refine WL.ret ?_) | (refine kCond ?_; first | (refine WL.condT rfl ?_) | (refine WL.condF rfl ?_)))
    | (refine lthen_n ?_)
    | (refine lthen_r ?_)
    | (refine LPost.r1 (r := .tmp 2) (.inl rfl) (Res1.tmp rfl) ?_)
  · exact Own2.fam (f := iV) (cs := l) (szf := 1) 1 (by simp [nthO]) (fun _ => rfl) (fun _ => rfl)
  · have hr : l = [] := by
      cases l with
      | nil => rfl
      | cons x r => exact absurd (hb rfl) (by simp)
    subst hr
    exact ⟨[], .nilsl, List.nodup_nil⟩
theorem cloneStr_o (l : List (List UInt8)) (h : l.length ≤ 1048576) (s : S) : VCalls Try.prog 144 [.sl 0 (l.map sV)] s (fun v t => Own2 (.sl 0 (l.map sV)) v t) := by
  refine LCalls.body Try.func144 rfl (by kernel_rfl) ?_
  repeat' first
    | (refine WL.regionNil tT_ok rfl rfl rfl rfl (fun b hb => ?_) ; cases b)
    | (refine kOps ?_; first | (refine LOps.nil ?_) | (refine LOps.ev tT_ok rfl ?_) | (refine kBsl ?_; first | (refine LOps.bsl0 tT_ok rfl rfl rfl rfl rfl ?_)) | (refine kApp ?_; first | (refine LOps.app0 tT_ok rfl rfl rfl rfl rfl rfl rfl rfl rfl rfl rfl ?_ (AppB.of ?_ rfl) ?_; (focus (first | exact Elems.of rfl | exact Elems.map fun _ => rfl | exact PE.els _ (fun _ => rfl) _)); (focus (first | omega | (simp; omega))))))
    | (refine kWL ?_; first | (refine WL.seq ?_) | (refine WL.region (by kernel_rfl) ?_) | (refine WL.skip ?_) | (refine WL.ret ?_) | (refine kCond ?_; first | (refine WL.condT rfl ?_) | (refine WL.condF rfl ?_)))
    | (refine lthen_n ?_)
    | (refine lthen_r ?_)
    | (refine LPost.r1 (r := .tmp 2) (.inl rfl) (Res1.tmp rfl) ?_)
  · exact Own2.fam (f := sV) (cs := l) (szf := 1) 1 (by simp [nthO]) (fun _ => rfl) (fun _ => rfl)
  · have hr : l = [] := by
      cases l with
      | nil => rfl
      | cons x r => exact absurd (hb rfl) (by simp)
    subst hr
    exact ⟨[], .nilsl, List.nodup_nil⟩

def ToG (P : Program) (g : FuncId) (caps : List V) (d d' : V) : Prop := ∀ t : S, VCalls P g (d :: caps) t (fun v t' => Own2 d' v t')
def OkCaps (caps : List V) : Prop := ∀ H, RdH H caps caps
theorem mapPExprs_o (xs : List PE) (F : PE → PE) (g : FuncId) (caps : List V) (hg : CallOk Try.prog g) (hcap : OkCaps caps) (hl : xs.length ≤ 1048576) (ih : ∀ x ∈ xs, ToG Try.prog g caps x.v (F x).v) (s : S) :
    VCalls Try.prog 89 [.sl 0 (xs.map PE.toV), .fn g caps] s (fun v t => Own2 (.sl 0 ((xs.map F).map PE.toV)) v t) := by
  have hh : Hold s s.next [] := .start _ _
  refine LCalls.body Try.func89 rfl (by kernel_rfl) ?_
  repeat' first
    | (refine kOps ?_; first | (refine LOps.nil ?_) | (refine LOps.ev tT_ok rfl ?_) | (refine kBsl ?_; first | (refine LOps.bsl0 tT_ok rfl rfl rfl rfl rfl ?_)) | (refine kLen ?_; first | (refine LOps.ans (AnsL.lenM tT_ok rfl rfl rfl) ?_)))
    | (refine kWL ?_; first | (refine WL.seq ?_) | (refine WL.region (by kernel_rfl) ?_) | (refine WL.block ?_))
    | (refine lthen_n ?_)
  refine WL.zfamH (t := 5) 10 rfl rfl hh (fun s id hh => ?_)
  refine WL.loopH (fun y : Nat × List V × List V => xs.length - y.1) (fun y => [(1, .fn g caps), (5, .sl id y.2.1), (9, .sl 0 (xs.map PE.toV)), (10, .int .i64 (xs.length : Nat)), (11, .int .i64 (y.1 : Int))]) (fun y => [.acc id 10 y.2.1 y.2.2])
    (fun y => y.1 ≤ xs.length ∧ y.2.2 = ((xs.take y.1).map F).map PE.toV) (0, [], []) ⟨by simp, by simp⟩ ⟨rfl, rfl, rfl, rfl, rfl, trivial⟩ hh (by (repeat' first | (exact Sel.nil) | (exact Sel.refl _) | (refine' Sel.p ?_ ?_; rotate_left 1; (focus (((repeat' first | (exact Pick.here) | (refine' Pick.there ?_)); done)))))) (fun y s hI hh => ?_)
  obtain ⟨i, us, ds⟩ := y
  obtain ⟨hi, hd⟩ := hI
  dsimp only at hi hd hh ⊢
  have hus := hh.accLen 0 rfl
  have hdl : ds.length = i := by rw [hd]; simp; omega
  rcases Nat.lt_or_ge i xs.length with hlt | hge
  · have hga : (xs.map PE.toV)[i]? = some (PE.v xs[i]) := by rw [List.getElem?_map, List.getElem?_eq_getElem hlt]; simp only [Option.map_some, PE.toV_eq]
    have hst := map_take2 PE.toV F hlt
    rw [← hd, PE.toV_eq] at hst
    have hE := ih xs[i] (List.getElem_mem hlt)
    generalize xs[i] = x at hga hst hE
    repeat' first
      | (refine kAlloc ?_ ; refine LOps.allocH tT_ok hh rfl rfl ?_ ; intro s n hh)
      | (refine kStore ?_ ; first | (refine LOps.storeH tT_ok 0 hh rfl rfl rfl rfl rfl rfl rfl rfl rfl ?_ ; intro s hh))
      | (refine kBsl ?_ ; refine' LOps.bslH tT_ok rfl rfl rfl rfl rfl rfl rfl rfl hh ?_ ?_ ?_ ; rotate_left 2 ; (focus ((repeat' first | (exact ConsL.nil) | (refine' Cons.bp ?_; ((repeat' first | (exact Pick.here)); done)) | (refine' ConsL.cons ?_ ?_)); done)) ; (focus ((repeat' first | (exact ElsH.of rfl)); done)) ; intro s n hh)
      | (refine kApp ?_ ; first | (refine' LOps.appH tT_ok 2 rfl rfl rfl rfl rfl rfl rfl rfl rfl rfl hh ?_ ?_ (AppB.of ?_ rfl) ?_ ; rotate_left 3 ; (focus (first | (refine' ConsSp.ap ?_; ((repeat' first | (exact Pick.here)); done)))) ; (focus ((repeat' first | (exact Elems.nil) | (refine Elems.ct rfl rfl ?_)); done)) ; (focus (first | omega | (simp ; omega))) ; intro s hh))
      | (refine kCall ?_ ; refine LOps.lendC rfl rfl rfl hg hh (.cons (.pl (PE.plainv x)) (hcap _)) (fun t => hE t) (PE.plainv _) ?_ ; intro s n hh)
      | (refine kOps ?_; first | (refine LOps.nil ?_) | (refine LOps.ev tT_ok rfl ?_) | (refine kLoad ?_; first | (refine LOps.ans (AnsL.loadH tT_ok 0 hh rfl rfl rfl rfl) ?_)) | (refine kBin ?_; first | (refine LOps.ans (AnsL.add rfl rfl ?_) ?_; (focus (constructor <;> omega)))) | (refine kIdx ?_; first | (refine LOps.ans (AnsL.idx tT_ok rfl rfl rfl rfl rfl hga rfl rfl) ?_)))
      | (refine kWL ?_; first | (refine WL.seq ?_) | (refine WL.region (by kernel_rfl) ?_) | (refine WL.block ?_) | (refine WL.skip ?_) | (refine kCond ?_; first | (refine WL.condT' rfl ?_ ?_; (focus (first | (simp only [decide_eq_true_eq, decide_eq_false_iff_not, Bool.not_eq_true', Bool.not_eq_false', Int.ofNat_lt, Int.ofNat_le, Int.ofNat_inj, not_true_eq_false, not_false_eq_true]; omega))))))
      | (refine lthen_n ?_)
      | (refine lblock_n ?_)
    all_goals
      refine' lbackH.of ((i + 1, _, ds ++ [(F x).v])) ?_ hh ?_ ?_ ?_
      rotate_left 1
      · repeat' first | exact SubL.nil | (refine SubL.mk rfl ?_ ?_) | rfl | (simp [hst] <;> fail) | (simp [hst]; omega)
      · first | ((repeat' first | (exact Sel.nil) | (exact Sel.refl _) | (refine' Sel.p ?_ ?_; rotate_left 1; (focus (((repeat' first | (exact Pick.here) | (refine' Pick.there ?_)); done))))); done) | (dsimp only; simp only [List.map_append, List.map_cons, List.map_nil]; (repeat' first | (exact Sel.nil) | (exact Sel.refl _) | (refine' Sel.p ?_ ?_; rotate_left 1; (focus (((repeat' first | (exact Pick.here) | (refine' Pick.there ?_)); done))))); done) | (dsimp only; simp only [List.map_append, List.map_cons, List.map_nil, hst]; (repeat' first | (exact Sel.nil) | (exact Sel.refl _) | (refine' Sel.p ?_ ?_; rotate_left 1; (focus (((repeat' first | (exact Pick.here) | (refine' Pick.there ?_)); done))))); done)
      · dsimp only; repeat' first | omega | assumption | (refine And.intro ?_ ?_) | rfl | (simp [hst] <;> fail) | (simp [hst]; omega) | (simp_all [hst] <;> fail) | (simp_all [hst]; omega)
      · dsimp only; first | omega | (simp; omega) | (simp_all; omega)
  · skip
    repeat' first
      | (refine kOps ?_; first | (refine LOps.nil ?_) | (refine LOps.ev tT_ok rfl ?_))
      | (refine kWL ?_; first | (refine WL.seq ?_) | (refine WL.region (by kernel_rfl) ?_) | (refine WL.exit ?_) | (refine WL.ret ?_) | (refine kCond ?_; first | (refine WL.condF' rfl ?_ ?_; (focus (first | (simp only [decide_eq_true_eq, decide_eq_false_iff_not, Bool.not_eq_true', Bool.not_eq_false', Int.ofNat_lt, Int.ofNat_le, Int.ofNat_inj, not_true_eq_false, not_false_eq_true]; omega))))))
      | (refine lthen_n ?_)
      | (refine lthen_e ?_)
      | (refine lblock_e ?_)
      | (refine lbackH_e ?_)
      | (refine LPost.r1 (r := .tmp 4) (.inl rfl) (Res1.tmp rfl) ?_)
    rw [List.take_of_length_le hge] at hd
    subst hd
    exact Own2.ofH hh (by ((repeat' first | (exact ConsL.nil) | (exact Cons.zsl) | (exact Cons.nilsl) | (refine' Cons.bp ?_; ((repeat' first | (exact Pick.here) | (refine' Pick.there ?_)); done)) | (refine' Cons.ap ?_; ((repeat' first | (exact Pick.here) | (refine' Pick.there ?_)); done)) | (exact Cons.blk 0 rfl rfl rfl) | (exact Cons.blk 1 rfl rfl rfl) | (exact Cons.blk 2 rfl rfl rfl) | (exact Cons.blk 3 rfl rfl rfl) | (exact Cons.blk 4 rfl rfl rfl) | (exact Cons.blk 5 rfl rfl rfl) | (exact Cons.pl rfl rfl) | (exact Cons.pl (by assumption) (by assumption)) | (refine' ConsL.cons ?_ ?_) | (exact ConsL.pls rfl rfl) | (exact ConsL.pls (by assumption) (by assumption)) | (refine' Cons.agg ?_)); done))

set_option maxHeartbeats 4000000 in
theorem mapPlan_o (p : PL) (F : PE → PE) (g : FuncId) (caps : List V) (hg : CallOk Try.prog g) (hcap : OkCaps caps) (hw : wgt p.v ≤ 1048576) (ih : ∀ k ∈ p.parts, ToG Try.prog g caps k.v (F k).v) (s : S) :
    VCalls Try.prog 123 [p.v, .fn g caps] s (fun v t => Own2 (PL.map F p).v v t) := by
  have hh : Hold s s.next [] := .start _ _
  have hwe := PL.wgt_eq p
  have l1 := wgt_len iV p.tables
  have l2 := wgt_len PE.vS p.on
  have l3 := wgt_len PE.toV p.wher
  have l4 := wgt_len PE.sv p.order
  have l5 := wgt_len PE.toV p.items
  have l6 := wgt_len sV p.names
  refine LCalls.body Try.func123 rfl (by kernel_rfl) ?_
  repeat' first
    | (refine kBox ?_ ; first | (refine LOps.boxH hh rfl rfl ?_ ; intro s n hh))
    | (refine kAlloc ?_ ; refine LOps.allocH tT_ok hh rfl rfl ?_ ; intro s n hh)
    | (refine kOps ?_; first | (refine LOps.nil ?_))
    | (refine kWL ?_; first | (refine WL.seq ?_) | (refine WL.region (by kernel_rfl) ?_))
    | (refine lthen_n ?_)
  rename_i s0 hh0 s1 nP hh1
  rename Nat => nR
  refine WL.cutH (fun x : Nat × Nat × Nat => [(1, .fn g caps), (2, .ptr nP 0), (4, .ptr nR 0), (5, .ptr x.1 0)])
    (fun x => [.cell x.1 [(thw x.2.1 (.sl 0 (p.tables.map iV))).1, .nilsl, .nilsl, .nilsl, .nilsl, (thw x.2.2 (.sl 0 (p.names.map sV))).1, .bool p.distinct, .int .i64 p.limit], .cell nR [.nilsl, .nilsl, .nilsl, .nilsl, .nilsl, .nilsl, .bool false, .int .i64 0], .cell nP p.v.cells, .blk x.2.1 (.sl 0 (p.tables.map iV)), .blk x.2.2 (.sl 0 (p.names.map sV))]) (fun _ => True) ?_ (fun x s _ hh => ?_)
  · skip
    repeat' first
      | (refine kAlloc ?_ ; refine LOps.allocH tT_ok hh rfl rfl ?_ ; intro s n hh)
      | (refine kStore ?_ ; first | (refine LOps.storeH tT_ok 0 hh rfl rfl rfl rfl rfl ?_ rfl rfl rfl ?_ ; (focus (repeat' first | (exact rfl) | (refine ones_cons (thw_one _ _ _) ?_) | (refine ones_cons rfl ?_))) ; intro s hh) | (refine LOps.storeH tT_ok 1 hh rfl rfl rfl rfl rfl ?_ rfl rfl rfl ?_ ; (focus (repeat' first | (exact rfl) | (refine ones_cons (thw_one _ _ _) ?_) | (refine ones_cons rfl ?_))) ; intro s hh) | (refine LOps.storeH tT_ok 2 hh rfl rfl rfl rfl rfl ?_ rfl rfl rfl ?_ ; (focus (repeat' first | (exact rfl) | (refine ones_cons (thw_one _ _ _) ?_) | (refine ones_cons rfl ?_))) ; intro s hh))
      | (refine kCallN 111 ?_ ; refine LOps.lendH rfl rfl ok111 hh ?_ (fun t => cloneInt_o p.tables (by omega) t) (plain_IntS _) ?_ ; (focus ((repeat' first | (exact RdH.nil) | (refine RdH.cons ?_ ?_) | (refine RdV.pl ?_; (focus (first | (exact plain_IntS _))))); done)) ; intro s n hh)
      | (refine kCallN 144 ?_ ; refine LOps.lendH rfl rfl ok144 hh ?_ (fun t => cloneStr_o p.names (by omega) t) (plain_StringS _) ?_ ; (focus ((repeat' first | (exact RdH.nil) | (refine RdH.cons ?_ ?_) | (refine RdV.pl ?_; (focus (first | (exact plain_StringS _))))); done)) ; intro s n hh)
      | (refine kOps ?_; first | (refine LOps.nil ?_))
      | (refine kWL ?_; first | (refine WL.drawnO (id := 1) (.fl 0 (.fl 1 (.fl 3 (.fl 4 (.fl 6 (.fl 7 (.fl 8 (.fl 9 (.ef 2 (.ef 5 (.fl 10 (.ef 11 (.ef 12 .done .stop) .stop)) (.ef 11 (.ef 5 (.fl 10 (.ef 12 .done .stop)) .stop) .stop)) (.ef 11 (.ef 2 (.ef 5 (.fl 10 (.ef 12 .done .stop)) .stop) .stop) .stop)))))))))) [2, 5, 11, 12] [[], [0], [0, 1], [], [3], [0, 1, 2, 3, 4], [], [6], [], [8], [0, 1, 2, 3, 4, 5, 6, 7, 8, 9], [], [0, 1, 2, 3, 4, 5, 6, 7, 8, 9, 10, 11]] (by kernel_rfl) (by kernel_rfl) ?_))
      | (refine kDt ?_; first | (exact LDt.stop) | (refine LDt.done ?_) | (refine LDt.fl rfl (.ev tT_ok rfl) ?_) | (refine LDt.fl rfl (AnsL.loadH tT_ok 1 hh rfl rfl rfl rfl) ?_) | (refine' LDt.fl (v := .agg _) rfl (AnsL.buildE tT_ok rfl rfl rfl ?_) ?_; rotate_left 1; (focus ((repeat' first | (exact Fills.nil) | (refine' Fills.cons rfl rfl rfl rfl ?_) | (refine' Fills.cons rfl (thw_cellsO _ _ _) rfl rfl ?_)); done))) | (refine LDt.ef rfl rfl ?_ ?_))
      | (refine And.intro ?_ ?_)
      | (exact StsL.nil)
      | (refine StsL.cons ?_ ?_)
      | (refine StL.fl rfl rfl (.ev tT_ok rfl))
      | (refine StL.fl rfl rfl (AnsL.buildE tT_ok rfl rfl rfl ?_); (focus ((repeat' first | (exact Fills.nil) | (refine' Fills.cons rfl rfl rfl rfl ?_) | (refine' Fills.cons rfl (thw_cellsO _ _ _) rfl rfl ?_)); done)))
      | (refine StL.fl rfl rfl (AnsL.loadH tT_ok 2 hh rfl rfl rfl rfl))
      | (refine StL.fl rfl rfl (AnsL.loadH tT_ok 3 hh rfl rfl rfl rfl))
      | (refine StL.fl rfl rfl (AnsL.loadH tT_ok 4 hh rfl rfl rfl rfl))
    all_goals
      refine' CutH.of ((_, _, _)) ?_ hh ?_ ?_
      rotate_left 3
      · repeat' first | exact SubL.nil | (refine SubL.mk rfl ?_ ?_) | rfl | (simp [] <;> fail) | (simp []; omega)
      · dsimp only; (repeat' first | (exact Sel.nil) | (exact Sel.refl _) | (refine' Sel.p ?_ ?_; rotate_left 1; (focus (((repeat' first | (exact Pick.here) | (refine' Pick.there ?_)); done)))))
      · dsimp only; repeat' first | exact trivial | assumption | omega | (refine And.intro ?_ ?_) | rfl | (simp [] <;> fail)
  obtain ⟨nO, na, nb⟩ := x
  dsimp only at hh ⊢
  repeat' first
    | (refine kOps ?_; first | (refine LOps.nil ?_) | (refine LOps.ev tT_ok rfl ?_) | (refine kLoad ?_; first | (refine LOps.ans (AnsL.loadH tT_ok 2 hh rfl rfl rfl rfl) ?_)) | (refine kLen ?_; first | (refine LOps.ans (AnsL.lenM tT_ok rfl rfl rfl) ?_)))
    | (refine kWL ?_; first | (refine WL.seq ?_) | (refine WL.region (by kernel_rfl) ?_) | (refine WL.block ?_))
    | (refine lthen_n ?_)
  refine WL.zfamC 0 1 1 rfl rfl rfl hh (fun s id hh => ?_)
  replace hh := hh _ rfl _ rfl
  refine WL.loopH (fun y : Nat × List V × List V => p.on.length - y.1) (fun y => [(1, .fn g caps), (2, .ptr nP 0), (4, .ptr nR 0), (5, .ptr nO 0), (22, .sl 0 (p.on.map PE.vS)), (23, .int .i64 (p.on.length : Nat)), (24, .int .i64 (y.1 : Int))])
    (fun y => [.acc id 1 y.2.1 y.2.2, .cell nO [(thw na (.sl 0 (p.tables.map iV))).1, .sl id y.2.1, .nilsl, .nilsl, .nilsl, (thw nb (.sl 0 (p.names.map sV))).1, .bool p.distinct, .int .i64 p.limit], .cell nR [.nilsl, .nilsl, .nilsl, .nilsl, .nilsl, .nilsl, .bool false, .int .i64 0], .cell nP p.v.cells, .blk na (.sl 0 (p.tables.map iV)), .blk nb (.sl 0 (p.names.map sV))])
    (fun y => y.1 ≤ p.on.length ∧ y.2.2 = ((p.on.take y.1).map (List.map F)).map PE.vS) (0, [], []) ⟨by simp, by simp⟩ ⟨rfl, rfl, rfl, rfl, rfl, rfl, rfl, trivial⟩ hh (by (repeat' first | (exact Sel.nil) | (exact Sel.refl _) | (refine' Sel.p ?_ ?_; rotate_left 1; (focus (((repeat' first | (exact Pick.here) | (refine' Pick.there ?_)); done)))))) (fun y s hI hh => ?_)
  obtain ⟨i, us, ds⟩ := y
  obtain ⟨hi, hd⟩ := hI
  dsimp only at hi hd hh ⊢
  have hus := hh.accLen 0 rfl
  have hdl : ds.length = i := by rw [hd]; simp; omega
  rcases Nat.lt_or_ge i p.on.length with hlt | hge
  · have hga : (p.on.map PE.vS)[i]? = some (PE.vS p.on[i]) := by rw [List.getElem?_map, List.getElem?_eq_getElem hlt]; rfl
    have hst := map_take2 PE.vS (List.map F) hlt
    rw [← hd] at hst
    have hmm := fun s => mapPExprs_o p.on[i] F g caps hg hcap (by have k1 := PL.wgt_on (List.getElem_mem hlt); have k2 := wgt_len PE.toV p.on[i]; omega) (fun x hx => ih x (PlanOf.mem_on (List.getElem_mem hlt) hx)) s
    generalize p.on[i] = l at hga hst hmm
    repeat' first
      | (refine kStore ?_ ; first | (refine LOps.storeH tT_ok 1 hh rfl rfl rfl rfl rfl rfl rfl rfl rfl ?_ ; intro s hh))
      | (refine kApp ?_ ; first | (refine' LOps.appH tT_ok 1 rfl rfl rfl rfl rfl rfl rfl rfl rfl rfl hh ?_ ?_ (AppB.of ?_ rfl) ?_ ; rotate_left 3 ; (focus (first | (apply ConsSp.pl; (focus ((repeat' first | (exact ConsL.nil) | (refine' Cons.bp ?_; ((repeat' first | (exact Pick.here)); done)) | (refine' ConsL.cons ?_ ?_)); done))))) ; (focus ((repeat' first | (exact Elems.nil) | (refine Elems.ct rfl rfl ?_)); done)) ; (focus (first | omega | (simp ; omega))) ; intro s hh))
      | (refine kCallN 89 ?_ ; refine LOps.lendC rfl rfl rfl ok89 hh (.cons (.pl (plain_PExprS l)) (.cons (.fn (hcap _)) .nil)) (fun t => hmm t) (plain_PExprS _) ?_ ; intro s n hh)
      | (refine kOps ?_; first | (refine LOps.nil ?_) | (refine LOps.ev tT_ok rfl ?_) | (refine kBin ?_; first | (refine LOps.ans (AnsL.add rfl rfl ?_) ?_; (focus (constructor <;> omega)))) | (refine kIdx ?_; first | (refine LOps.ans (AnsL.idx tT_ok rfl rfl rfl rfl rfl hga rfl rfl) ?_)))
      | (refine kWL ?_; first | (refine WL.seq ?_) | (refine WL.region (by kernel_rfl) ?_) | (refine WL.drawn (id := 5) [0, 1, 2, 3, 4, 5, 6, 7, 8] [4, 6, 8] [[], [0], [], [], [2, 3], [2, 3, 4], [0, 1, 2, 3, 4, 5], [0, 1, 2, 3, 4, 5, 6], [0, 1, 2, 3, 4, 5, 6, 7]] (by kernel_rfl) (by kernel_rfl) ?_) | (refine WL.block ?_) | (refine WL.skip ?_) | (refine kCond ?_; first | (refine WL.condT' rfl ?_ ?_; (focus (first | (simp only [decide_eq_true_eq, decide_eq_false_iff_not, Bool.not_eq_true', Bool.not_eq_false', Int.ofNat_lt, Int.ofNat_le, Int.ofNat_inj, not_true_eq_false, not_false_eq_true]; omega))))))
      | (refine kDr ?_; first | (refine LDr.nil ?_) | (refine LDr.fl rfl rfl (.ev tT_ok rfl) ?_) | (refine LDr.fl rfl rfl (AnsL.bslE tT_ok rfl rfl rfl rfl rfl rfl rfl rfl ?_) ?_; (focus ((repeat' first | (exact ElsH.nil) | (refine ElsH.ct rfl rfl ?_)); done))) | (refine kDLoad rfl ?_; first | (refine LDr.fl rfl rfl (AnsL.loadH tT_ok 1 hh rfl rfl rfl rfl) ?_)) | (refine LDr.eff rfl rfl rfl ?_))
      | (refine lthen_n ?_)
      | (refine lblock_n ?_)
      | (refine And.intro ?_ ?_)
      | (exact StsL.nil)
      | (refine StsL.cons ?_ ?_)
      | (refine StL.fl rfl rfl (.ev tT_ok rfl))
      | (refine StL.fl rfl rfl (AnsL.loadH tT_ok 2 hh rfl rfl rfl rfl))
    all_goals
      refine' lbackH.of ((i + 1, _, ds ++ [PE.vS (l.map F)])) ?_ hh ?_ ?_ ?_
      rotate_left 1
      · repeat' first | exact SubL.nil | (refine SubL.mk rfl ?_ ?_) | rfl | (simp [hst] <;> fail) | (simp [hst]; omega)
      · first | ((repeat' first | (exact Sel.nil) | (exact Sel.refl _) | (refine' Sel.p ?_ ?_; rotate_left 1; (focus (((repeat' first | (exact Pick.here) | (refine' Pick.there ?_)); done))))); done) | (dsimp only; simp only [List.map_append, List.map_cons, List.map_nil]; (repeat' first | (exact Sel.nil) | (exact Sel.refl _) | (refine' Sel.p ?_ ?_; rotate_left 1; (focus (((repeat' first | (exact Pick.here) | (refine' Pick.there ?_)); done))))); done) | (dsimp only; simp only [List.map_append, List.map_cons, List.map_nil, hst]; (repeat' first | (exact Sel.nil) | (exact Sel.refl _) | (refine' Sel.p ?_ ?_; rotate_left 1; (focus (((repeat' first | (exact Pick.here) | (refine' Pick.there ?_)); done))))); done)
      · dsimp only; repeat' first | omega | assumption | (refine And.intro ?_ ?_) | rfl | (simp [hst] <;> fail) | (simp [hst]; omega) | (simp_all [hst] <;> fail) | (simp_all [hst]; omega)
      · dsimp only; first | omega | (simp; omega) | (simp_all; omega)
  have e1 : i = p.on.length := by omega
  subst e1
  rw [List.take_length] at hd
  have hq1 := fun s => mapPExprs_o p.wher F g caps hg hcap (by omega) (fun x hx => ih x (PlanOf.mem_wher hx)) s
  repeat' first
    | (refine kStore ?_ ; first | (refine LOps.storeHS tT_ok 2 hh rfl rfl rfl rfl rfl rfl rfl rfl ?_ ; intro s hh))
    | (refine kCallN 89 ?_ ; refine LOps.lendC rfl rfl rfl ok89 hh (.cons (.pl (plain_PExprS p.wher)) (.cons (.fn (hcap _)) .nil)) (fun t => hq1 t) (plain_PExprS _) ?_ ; intro s n hh)
    | (refine kOps ?_; first | (refine LOps.nil ?_) | (refine LOps.ev tT_ok rfl ?_) | (refine kLoad ?_; first | (refine LOps.ans (AnsL.loadH tT_ok 3 hh rfl rfl rfl rfl) ?_) | (refine LOps.ans (AnsL.loadH tT_ok 4 hh rfl rfl rfl rfl) ?_)) | (refine kLen ?_; first | (refine LOps.ans (AnsL.lenM tT_ok rfl rfl rfl) ?_)))
    | (refine kWL ?_; first | (refine WL.seq ?_) | (refine WL.region (by kernel_rfl) ?_) | (refine WL.block ?_) | (refine WL.exit ?_) | (refine kCond ?_; first | (refine WL.condF' rfl ?_ ?_; (focus (first | (simp only [decide_eq_true_eq, decide_eq_false_iff_not, Bool.not_eq_true', Bool.not_eq_false', Int.ofNat_lt, Int.ofNat_le, Int.ofNat_inj, not_true_eq_false, not_false_eq_true]; omega))))))
    | (refine lthen_n ?_)
    | (refine lthen_e ?_)
    | (refine lblock_e ?_)
    | (refine lbackH_e ?_)
  rename Nat => nw
  refine WL.zfamC 2 3 11 rfl rfl rfl hh (fun s ido hh => ?_)
  replace hh := hh _ rfl _ rfl
  refine WL.loopH (fun y : Nat × List V × List V => p.order.length - y.1) (fun y => [(1, .fn g caps), (2, .ptr nP 0), (4, .ptr nR 0), (5, .ptr nO 0), (43, .sl 0 (p.order.map PE.sv)), (44, .int .i64 (p.order.length : Nat)), (45, .int .i64 (y.1 : Int))])
    (fun y => [.acc ido 11 y.2.1 y.2.2, .cell nO [(thw na (.sl 0 (p.tables.map iV))).1, .sl id us, (thw nw (.sl 0 ((p.wher.map F).map PE.toV))).1, .sl ido y.2.1, .nilsl, (thw nb (.sl 0 (p.names.map sV))).1, .bool p.distinct, .int .i64 p.limit], .cell nR [.nilsl, .nilsl, .nilsl, .nilsl, .nilsl, .nilsl, .bool false, .int .i64 0], .cell nP p.v.cells, .acc id 1 us ds, .blk nw (.sl 0 ((p.wher.map F).map PE.toV)), .blk na (.sl 0 (p.tables.map iV)), .blk nb (.sl 0 (p.names.map sV))])
    (fun y => y.1 ≤ p.order.length ∧ y.2.2 = ((p.order.take y.1).map (fun x => (F x.1, x.2))).map PE.sv) (0, [], []) ⟨by simp, by simp⟩ ⟨rfl, rfl, rfl, rfl, rfl, rfl, rfl, trivial⟩ hh (by (repeat' first | (exact Sel.nil) | (exact Sel.refl _) | (refine' Sel.p ?_ ?_; rotate_left 1; (focus (((repeat' first | (exact Pick.here) | (refine' Pick.there ?_)); done)))))) (fun y s hI hh => ?_)
  obtain ⟨i, us2, ds2⟩ := y
  obtain ⟨hi, hd2⟩ := hI
  dsimp only at hi hd2 hh ⊢
  have hus2 := hh.accLen 0 rfl
  have hdl2 : ds2.length = i := by rw [hd2]; simp; omega
  rcases Nat.lt_or_ge i p.order.length with hlt | hge
  · have hga : (p.order.map PE.sv)[i]? = some (PE.sv p.order[i]) := by rw [List.getElem?_map, List.getElem?_eq_getElem hlt]; rfl
    have hst := map_take2 PE.sv (fun x : PE × Bool => (F x.1, x.2)) hlt
    rw [← hd2] at hst
    have hE := ih p.order[i].1 (PlanOf.mem_order (List.getElem_mem hlt))
    generalize p.order[i] = x at hga hst hE
    repeat' first
      | (refine kAlloc ?_ ; refine LOps.allocH tT_ok hh rfl rfl ?_ ; intro s n hh)
      | (refine kStore ?_ ; first | (refine LOps.storeH tT_ok 0 hh rfl rfl rfl rfl rfl rfl rfl rfl rfl ?_ ; intro s hh) | (refine LOps.storeH tT_ok 2 hh rfl rfl rfl rfl rfl rfl rfl rfl rfl ?_ ; intro s hh))
      | (refine kApp ?_ ; first | (refine' LOps.appH tT_ok 2 rfl rfl rfl rfl rfl rfl rfl rfl rfl rfl hh ?_ ?_ (AppB.of ?_ rfl) ?_ ; rotate_left 3 ; (focus (first | (apply ConsSp.pl; (focus ((repeat' first | (exact ConsL.nil) | (exact Cons.blk 0 rfl rfl rfl) | (refine' ConsL.cons ?_ ?_)); done))))) ; (focus ((repeat' first | (exact Elems.nil) | (refine' Elems.cg rfl ?_ ?_; (focus (repeat' first | (exact rfl) | (refine ones_cons (thw_one _ _ _) ?_) | (refine ones_cons rfl ?_))))); done)) ; (focus (first | omega | (simp ; omega))) ; intro s hh))
      | (refine kCall ?_ ; refine LOps.lendC rfl rfl rfl hg hh (.cons (.pl (PE.plainv x.1)) (hcap _)) (fun t => hE t) (PE.plainv _) ?_ ; intro s n hh ; replace hh := hh.sv x.2)
      | (refine kOps ?_; first | (refine LOps.nil ?_) | (refine LOps.ev tT_ok rfl ?_) | (refine kBin ?_; first | (refine LOps.ans (AnsL.add rfl rfl ?_) ?_; (focus (constructor <;> omega)))) | (refine kIdx ?_; first | (refine LOps.ans (AnsL.idx tT_ok rfl rfl rfl rfl rfl hga rfl rfl) ?_)))
      | (refine kWL ?_; first | (refine WL.seq ?_) | (refine WL.region (by kernel_rfl) ?_) | (refine WL.drawn (id := 11) [0, 1, 2, 3, 4, 6, 7, 5, 8, 9, 10, 11, 12] [5, 10, 12] [[], [0], [], [], [3], [2, 3, 4], [], [6], [2, 3, 4, 5, 6, 7], [2, 3, 4, 5, 6, 7, 8], [0, 1, 2, 3, 4, 5, 6, 7, 8, 9], [0, 1, 2, 3, 4, 5, 6, 7, 8, 9, 10], [0, 1, 2, 3, 4, 5, 6, 7, 8, 9, 10, 11]] (by kernel_rfl) (by kernel_rfl) ?_) | (refine WL.block ?_) | (refine WL.skip ?_) | (refine kCond ?_; first | (refine WL.condT' rfl ?_ ?_; (focus (first | (simp only [decide_eq_true_eq, decide_eq_false_iff_not, Bool.not_eq_true', Bool.not_eq_false', Int.ofNat_lt, Int.ofNat_le, Int.ofNat_inj, not_true_eq_false, not_false_eq_true]; omega))))))
      | (refine kDr ?_; first | (refine LDr.nil ?_) | (refine LDr.fl rfl rfl (.ev tT_ok rfl) ?_) | (refine LDr.fl rfl rfl (AnsL.bslF tT_ok rfl rfl rfl rfl rfl rfl rfl rfl rfl) ?_) | (refine kDLoad rfl ?_; first | (refine LDr.fl rfl rfl (AnsL.loadH tT_ok 0 hh rfl rfl rfl rfl) ?_) | (refine LDr.fl rfl rfl (AnsL.loadH tT_ok 2 hh rfl rfl rfl rfl) ?_)) | (refine LDr.eff rfl rfl rfl ?_))
      | (refine lthen_n ?_)
      | (refine lblock_n ?_)
      | (refine And.intro ?_ ?_)
      | (exact StsL.nil)
      | (refine StsL.cons ?_ ?_)
      | (refine StL.fl rfl rfl (.ev tT_ok rfl))
      | (refine StL.fl rfl rfl (AnsL.loadH tT_ok 1 hh rfl rfl rfl rfl))
      | (refine StL.fl rfl rfl (AnsL.loadH tT_ok 3 hh rfl rfl rfl rfl))
    all_goals
      refine' lbackH.of ((i + 1, _, ds2 ++ [PE.sv (F x.1, x.2)])) ?_ hh ?_ ?_ ?_
      rotate_left 1
      · repeat' first | exact SubL.nil | (refine SubL.mk rfl ?_ ?_) | rfl | (simp [hst] <;> fail) | (simp [hst]; omega)
      · first | ((repeat' first | (exact Sel.nil) | (exact Sel.refl _) | (refine' Sel.p ?_ ?_; rotate_left 1; (focus (((repeat' first | (exact Pick.here) | (refine' Pick.there ?_)); done))))); done) | (dsimp only; simp only [List.map_append, List.map_cons, List.map_nil]; (repeat' first | (exact Sel.nil) | (exact Sel.refl _) | (refine' Sel.p ?_ ?_; rotate_left 1; (focus (((repeat' first | (exact Pick.here) | (refine' Pick.there ?_)); done))))); done) | (dsimp only; simp only [List.map_append, List.map_cons, List.map_nil, hst]; (repeat' first | (exact Sel.nil) | (exact Sel.refl _) | (refine' Sel.p ?_ ?_; rotate_left 1; (focus (((repeat' first | (exact Pick.here) | (refine' Pick.there ?_)); done))))); done)
      · dsimp only; repeat' first | omega | assumption | (refine And.intro ?_ ?_) | rfl | (simp [hst] <;> fail) | (simp [hst]; omega) | (simp_all [hst] <;> fail) | (simp_all [hst]; omega)
      · dsimp only; first | omega | (simp; omega) | (simp_all; omega)
  have e1 : i = p.order.length := by omega
  subst e1
  rw [List.take_length] at hd2
  have hq2 := fun s => mapPExprs_o p.items F g caps hg hcap (by omega) (fun x hx => ih x (PlanOf.mem_items hx)) s
  repeat' first
    | (refine kStore ?_ ; first | (refine LOps.storeHS tT_ok 2 hh rfl rfl rfl rfl rfl rfl rfl rfl ?_ ; intro s hh) | (refine LOps.storeH tT_ok 3 hh rfl rfl rfl rfl rfl ?_ rfl rfl rfl ?_ ; (focus (repeat' first | (exact rfl) | (refine ones_cons (thw_one _ _ _) ?_) | (refine ones_cons rfl ?_))) ; intro s hh))
    | (refine kCallN 89 ?_ ; refine LOps.lendC rfl rfl rfl ok89 hh (.cons (.pl (plain_PExprS p.items)) (.cons (.fn (hcap _)) .nil)) (fun t => hq2 t) (plain_PExprS _) ?_ ; intro s n hh)
    | (refine kOps ?_; first | (refine LOps.nil ?_) | (refine LOps.ev tT_ok rfl ?_) | (refine kLoad ?_; first | (refine LOps.ans (AnsL.loadH tT_ok 2 hh rfl rfl rfl rfl) ?_) | (refine LOps.ans (AnsL.loadH tT_ok 3 hh rfl rfl rfl rfl) ?_)))
    | (refine kWL ?_; first | (refine WL.seq ?_) | (refine WL.region (by kernel_rfl) ?_) | (refine WL.exit ?_) | (refine WL.ret ?_) | (refine kCond ?_; first | (refine WL.condF' rfl ?_ ?_; (focus (first | (simp only [decide_eq_true_eq, decide_eq_false_iff_not, Bool.not_eq_true', Bool.not_eq_false', Int.ofNat_lt, Int.ofNat_le, Int.ofNat_inj, not_true_eq_false, not_false_eq_true]; omega))))))
    | (refine lthen_n ?_)
    | (refine lthen_e ?_)
    | (refine lblock_e ?_)
    | (refine lbackH_e ?_)
    | (refine' LPost.r1 (r := .cell 4 44) (.inl rfl) ?_ ?_; rotate_left 1; (focus (first | exact Res1.cellH 0 tT_ok hh rfl rfl rfl rfl | exact Res1.cellH 1 tT_ok hh rfl rfl rfl rfl | exact Res1.cellH 2 tT_ok hh rfl rfl rfl rfl | exact Res1.cellH 3 tT_ok hh rfl rfl rfl rfl | exact Res1.cellH 4 tT_ok hh rfl rfl rfl rfl | exact Res1.cellH 5 tT_ok hh rfl rfl rfl rfl | exact Res1.cellH 6 tT_ok hh rfl rfl rfl rfl | exact Res1.cellH 7 tT_ok hh rfl rfl rfl rfl | exact Res1.cellHW 0 tT_ok hh rfl rfl rfl rfl | exact Res1.cellHW 1 tT_ok hh rfl rfl rfl rfl | exact Res1.cellHW 2 tT_ok hh rfl rfl rfl rfl | exact Res1.cellHW 3 tT_ok hh rfl rfl rfl rfl | exact Res1.cellHW 4 tT_ok hh rfl rfl rfl rfl | exact Res1.cellHW 5 tT_ok hh rfl rfl rfl rfl | exact Res1.cellHW 6 tT_ok hh rfl rfl rfl rfl | exact Res1.cellHW 7 tT_ok hh rfl rfl rfl rfl)))
  subst hd
  subst hd2
  exact Own2.ofH hh (by ((repeat' first | (exact ConsL.nil) | (exact Cons.zsl) | (exact Cons.nilsl) | (refine' Cons.bp ?_; ((repeat' first | (exact Pick.here) | (refine' Pick.there ?_)); done)) | (refine' Cons.ap ?_; ((repeat' first | (exact Pick.here) | (refine' Pick.there ?_)); done)) | (exact Cons.blk 0 rfl rfl rfl) | (exact Cons.blk 1 rfl rfl rfl) | (exact Cons.blk 2 rfl rfl rfl) | (exact Cons.blk 3 rfl rfl rfl) | (exact Cons.blk 4 rfl rfl rfl) | (exact Cons.blk 5 rfl rfl rfl) | (exact Cons.pl rfl rfl) | (exact Cons.pl (by assumption) (by assumption)) | (refine' ConsL.cons ?_ ?_) | (exact ConsL.pls rfl rfl) | (exact ConsL.pls (by assumption) (by assumption)) | (refine' Cons.agg ?_)); done))

end Go.Proofs.Ytolhegocbkckdaa
