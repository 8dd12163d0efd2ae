/-
  Copies of plans' trees by the reference; the parts of plans.
  Lifting of a plan's tree by the program.
  Own work; no condition.
-/
import Derived.Test.YtolhegocbkckdaaDCopy3
import Derived.Test.YtolhegocbkckdaaDUps
namespace Go.Proofs.Ytolhegocbkckdaa
open Go
set_option linter.unusedSimpArgs false
set_option linter.unusedVariables false
set_option maxHeartbeats 4000000 in
theorem specCopy_c (e:PE):wgt e.v≤1048576→ToC Try.prog 35 e.v:=by
 induction e using PE.ind with
 | h e ih1 ih2 =>
   intro hw s
   have hh:Hold s s.next [] := .start _ _
   have hwe:=PE.wgt_eq2 e
   have l1:=wgt_len PE.toV e.kids
   have l2:=wgt_len PE.planV e.sub
   have hq1:=fun s=>specCopies_r e.kids (by omega) (fun x hx=>ih1 x hx (Nat.le_trans (PE.wgt_kid hx) hw)) s
   refine LCalls.body Try.func35 rfl (by kernel_rfl) ?_
   repeat' first |(refine kBox ?_ ;first |(refine LOps.boxH hh rfl rfl ?_ ;intro s n hh)) |(refine kAlloc ?_ ;refine LOps.allocH tT_ok hh rfl rfl ?_ ;intro s n hh) |(refine kStore ?_ ;first |(refine LOps.storeH tT_ok 0 hh rfl rfl rfl rfl rfl rfl rfl rfl rfl ?_ ;intro s hh) |(refine LOps.storeH tT_ok 1 hh rfl rfl rfl rfl rfl rfl rfl rfl rfl ?_ ;intro s hh) |(refine LOps.storeHS tT_ok 1 hh rfl rfl rfl rfl rfl rfl rfl rfl ?_ ;intro s hh)) |(refine kCallN 47 ?_ ;refine LOps.lendC rfl rfl rfl ok47 hh (.cons (.pl (plain_PExprS e.kids)) .nil) (fun t=>hq1 t) (plain_PExprS _) ?_ ;intro s n hh) |(refine kOps ?_;first |(refine LOps.nil ?_) |(refine LOps.ev tT_ok rfl ?_) |(refine kLoad ?_;first |(refine LOps.ans (AnsL.loadH tT_ok 1 hh rfl rfl rfl rfl) ?_) |(refine LOps.ans (AnsL.loadH tT_ok 2 hh rfl rfl rfl rfl) ?_))) |(refine kWL ?_;first |(refine WL.seq ?_) |(refine WL.region (by kernel_rfl) ?_) |(refine WL.block ?_)) |(refine lthen_n ?_)
   rename Nat=>nk
   rename_i s6 hh6 s5 nE hh5 s4 nR hh4 s3 hh3 s2 hh2 s1 hh1 s0 hh0
   refine WL.zfamC 1 9 8 rfl rfl rfl hh (fun s id hh=>?_)
   replace hh:=hh _ rfl _ rfl
   refine WL.loopH (fun y:Nat × List V × List V=>e.sub.length - y.1) (fun y=>[(1,.ptr nE 0),(2,.ptr nR 0),(3,.ptr n 0),(4,.int .i64 (y.1:Int))])
     (fun y=>[.acc id 8 y.2.1 y.2.2,.cell n [.int .i64 e.kind,.int .i64 e.op,.bool e.nt,.int .i64 e.value.kind,.int .i64 e.value.num,.str e.value.text,.int .i64 e.up,.int .i64 e.pos,(thw nk (.sl 0 (e.kids.map PE.toV))).1,.sl id y.2.1],
       .cell nE [.int .i64 e.kind,.int .i64 e.op,.bool e.nt,.int .i64 e.value.kind,.int .i64 e.value.num,.str e.value.text,.int .i64 e.up,.int .i64 e.pos,.sl 0 (e.kids.map PE.toV),.sl 0 (e.sub.map PE.planV)],.cell nR [.int .i64 0,.int .i64 0,.bool false,.int .i64 0,.int .i64 0,.str [],.int .i64 0,.int .i64 0,.nilsl,.nilsl],.blk nk (.sl 0 (e.kids.map PE.toV))])
     (fun y=>y.1≤e.sub.length∧y.2.2=(e.sub.take y.1).map PE.planV) (0,[],[]) ⟨by simp,by simp⟩ ⟨rfl,rfl,rfl,rfl,trivial⟩ hh (by (repeat' first |(exact Sel.nil) |(exact Sel.refl _) |(refine' Sel.p ?_ ?_;rotate_left 1;(focus (((repeat' first |(exact Pick.here) |(refine' Pick.there ?_));done)))))) (fun y s hI hh=>?_)
   obtain ⟨i,us,ds⟩:=y
   obtain ⟨hi,hd⟩:=hI
   dsimp only at hi hd hh ⊢
   have hus:=hh.accLen 0 rfl
   have hdl:ds.length=i:=by rw [hd];simp;omega
   rcases Nat.lt_or_ge i e.sub.length with hlt | hge
   · have hga:(e.sub.map PE.planV)[i]?=some (PL.v e.sub[i]):=by rw [List.getElem?_map,List.getElem?_eq_getElem hlt];simp only [Option.map_some,PE.planV_eq]
     have hst:(e.sub.take (i+1)).map PE.planV=ds++[PL.v e.sub[i]]:=by rw [hd,List.take_succ_eq_append_getElem hlt,List.map_append,List.map_cons,List.map_nil,PE.planV_eq]
     have hwp:wgt (PL.v e.sub[i])≤1048576:=Nat.le_trans (PE.wgt_sub (List.getElem_mem hlt)) hw
     have hE:=specCopyPlan_r e.sub[i] hwp (fun k hk=>ih2 _ (List.getElem_mem hlt) k hk (Nat.le_trans (PL.wgt_part2 hk) hwp))
     generalize e.sub[i]=x at hga hst hE
     repeat' first |(refine kStore ?_ ;first |(refine LOps.storeH tT_ok 1 hh rfl rfl rfl rfl rfl rfl rfl rfl rfl ?_ ;intro s hh)) |(refine kApp ?_ ;first |(refine' LOps.appH tT_ok 1 rfl rfl rfl rfl rfl rfl rfl rfl rfl rfl hh ?_ ?_ (AppB.ofW ?_ rfl) ?_ ;rotate_left 3 ;(focus (first |(apply ConsSp.pl;(focus ((repeat' first |(exact ConsL.nil) |(refine' Cons.bp ?_;((repeat' first |(exact Pick.here));done)) |(refine' ConsL.cons ?_ ?_));done))))) ;(focus ((repeat' first |(exact Elems.nil) |(refine Elems.ct rfl rfl ?_));done)) ;(focus (first | omega |(simp ;omega))) ;intro s hh)) |(refine kCallN 83 ?_ ;refine LOps.lendC rfl rfl rfl ok83 hh (.cons (.pl (PL.plain x)) .nil) (fun t=>hE t) (PL.plain _) ?_ ;intro s n hh) |(refine kOps ?_;first |(refine LOps.nil ?_) |(refine LOps.ev tT_ok rfl ?_) |(refine kLoad ?_;first |(refine LOps.ans (AnsL.loadH tT_ok 2 hh rfl rfl rfl rfl) ?_)) |(refine kLen ?_;first |(refine LOps.ans (AnsL.lenM tT_ok rfl rfl rfl) ?_)) |(refine kBin ?_;first |(refine LOps.ans (AnsL.add rfl rfl ?_) ?_;(focus (constructor <;> omega))))) |(refine kWL ?_;first |(refine WL.seq ?_) |(refine WL.region (by kernel_rfl) ?_) |(refine WL.drawn (id:=7) [0,1,2,3,4,5,6,7,8,9,10,11] [7,9,11] [[],[0],[],[2],[],[2,3,4],[2,3,4,5],[2,3,4,5,6],[2,3,4,5,6,7],[0,1,2,3,4,5,6,7,8],[0,1,2,3,4,5,6,7,8,9],[0,1,2,3,4,5,6,7,8,9,10]] (by kernel_rfl) (by kernel_rfl) ?_) |(refine WL.block ?_) |(refine WL.skip ?_) |(refine kCond ?_;first |(refine WL.condT' rfl ?_ ?_;(focus (first |(simp <;> omega)))))) |(refine kDr ?_;first |(refine LDr.nil ?_) |(refine LDr.fl rfl rfl (.ev tT_ok rfl) ?_) |(refine LDr.fl rfl rfl (AnsL.bslF tT_ok rfl rfl rfl rfl rfl rfl rfl rfl rfl) ?_) |(refine kDLoad rfl ?_;first |(refine LDr.fl rfl rfl (AnsL.loadH tT_ok 1 hh rfl rfl rfl rfl) ?_) |(refine LDr.fl rfl rfl (AnsL.loadH tT_ok 2 hh rfl rfl rfl rfl) ?_)) |(refine kDIdx rfl ?_;first |(refine LDr.fl rfl rfl (AnsL.idx tT_ok rfl rfl rfl rfl rfl hga rfl rfl) ?_)) |(refine LDr.eff rfl rfl rfl ?_)) |(refine lthen_n ?_) |(refine lblock_n ?_) |(refine And.intro ?_ ?_) |(exact StsL.nil) |(refine StsL.cons ?_ ?_) |(refine StL.fl rfl rfl (.ev tT_ok rfl)) |(refine StL.fl rfl rfl (AnsL.loadH tT_ok 2 hh rfl rfl rfl rfl))
     all_goals
       refine' lbackH.of ((i+1,_,ds++[x.v])) ?_ hh ?_ ?_ ?_
       rotate_left 1
       · repeat' first | exact SubL.nil |(refine SubL.mk rfl ?_ ?_) | rfl |(simp [hst] <;> fail) |(simp [hst];omega)
       · first |((repeat' first |(exact Sel.nil) |(exact Sel.refl _) |(refine' Sel.p ?_ ?_;rotate_left 1;(focus (((repeat' first |(exact Pick.here) |(refine' Pick.there ?_));done)))));done) |(dsimp only;simp only [List.map_append,List.map_cons,List.map_nil];(repeat' first |(exact Sel.nil) |(exact Sel.refl _) |(refine' Sel.p ?_ ?_;rotate_left 1;(focus (((repeat' first |(exact Pick.here) |(refine' Pick.there ?_));done)))));done) |(dsimp only;simp only [List.map_append,List.map_cons,List.map_nil,hst];(repeat' first |(exact Sel.nil) |(exact Sel.refl _) |(refine' Sel.p ?_ ?_;rotate_left 1;(focus (((repeat' first |(exact Pick.here) |(refine' Pick.there ?_));done)))));done)
       · dsimp only;repeat' first | omega | assumption |(refine And.intro ?_ ?_) | rfl |(simp [hst] <;> fail) |(simp [hst];omega) |(simp_all [hst] <;> fail) |(simp_all [hst];omega)
       · dsimp only;first | omega |(simp;omega) |(simp_all;omega)
   have e1:i=e.sub.length:=by omega
   subst e1
   rw [List.take_length] at hd
   subst hd
   repeat' first |(refine kStore ?_ ;first |(refine LOps.storeH tT_ok 3 hh rfl rfl rfl rfl rfl ?_ rfl rfl rfl ?_ ;(focus (repeat' first |(exact rfl) |(refine ones_cons (thw_one _ _ _) ?_) |(refine ones_cons rfl ?_))) ;intro s hh)) |(refine kOps ?_;first |(refine LOps.nil ?_) |(refine LOps.ev tT_ok rfl ?_) |(refine kLoad ?_;first |(refine LOps.ans (AnsL.loadH tT_ok 1 hh rfl rfl rfl rfl) ?_) |(refine LOps.ans (AnsL.loadH tT_ok 2 hh rfl rfl rfl rfl) ?_)) |(refine kLen ?_;first |(refine LOps.ans (AnsL.lenM tT_ok rfl rfl rfl) ?_))) |(refine kWL ?_;first |(refine WL.seq ?_) |(refine WL.region (by kernel_rfl) ?_) |(refine WL.exit ?_) |(refine WL.ret ?_) |(refine kCond ?_;first |(refine WL.condF' rfl ?_ ?_;(focus (first |(simp <;> omega)))))) |(refine lthen_n ?_) |(refine lthen_e ?_) |(refine lblock_e ?_) |(refine lbackH_e ?_) |(refine' LPost.r1 (r := .cell 2 29) (.inl rfl) ?_ ?_;rotate_left 1;(focus (first | exact Res1.cellH 0 tT_ok hh rfl rfl rfl rfl | exact Res1.cellH 1 tT_ok hh rfl rfl rfl rfl | exact Res1.cellH 2 tT_ok hh rfl rfl rfl rfl | exact Res1.cellH 3 tT_ok hh rfl rfl rfl rfl | exact Res1.cellH 4 tT_ok hh rfl rfl rfl rfl | exact Res1.cellH 5 tT_ok hh rfl rfl rfl rfl | exact Res1.cellH 6 tT_ok hh rfl rfl rfl rfl | exact Res1.cellH 7 tT_ok hh rfl rfl rfl rfl | exact Res1.cellHW 0 tT_ok hh rfl rfl rfl rfl | exact Res1.cellHW 1 tT_ok hh rfl rfl rfl rfl | exact Res1.cellHW 2 tT_ok hh rfl rfl rfl rfl | exact Res1.cellHW 3 tT_ok hh rfl rfl rfl rfl | exact Res1.cellHW 4 tT_ok hh rfl rfl rfl rfl | exact Res1.cellHW 5 tT_ok hh rfl rfl rfl rfl | exact Res1.cellHW 6 tT_ok hh rfl rfl rfl rfl | exact Res1.cellHW 7 tT_ok hh rfl rfl rfl rfl)))
   exact Own2.ofH hh (by ((repeat' first |(exact ConsL.nil) |(exact Cons.zsl) |(exact Cons.nilsl) |(refine' Cons.bp ?_;((repeat' first |(exact Pick.here) |(refine' Pick.there ?_));done)) |(refine' Cons.ap ?_;((repeat' first |(exact Pick.here) |(refine' Pick.there ?_));done)) |(exact Cons.blk 0 rfl rfl rfl) |(exact Cons.blk 1 rfl rfl rfl) |(exact Cons.blk 2 rfl rfl rfl) |(exact Cons.blk 3 rfl rfl rfl) |(exact Cons.blk 4 rfl rfl rfl) |(exact Cons.blk 5 rfl rfl rfl) |(exact Cons.pl rfl rfl) |(exact Cons.pl (by assumption) (by assumption)) |(refine' ConsL.cons ?_ ?_) |(exact ConsL.pls rfl rfl) |(exact ConsL.pls (by assumption) (by assumption)) |(refine' Cons.agg ?_));done))
end Go.Proofs.Ytolhegocbkckdaa

namespace Go.Proofs.Ytolhegocbkckdaa
open Go
set_option linter.unusedSimpArgs false
set_option linter.unusedVariables false
theorem PL.wgt_part1 {p:PL} {k:PE} (hk:k∈p.parts):1+wgt k.v≤wgt p.v:=by
 obtain ⟨i,hi,rfl⟩:=List.getElem_of_mem hk
 exact Nat.le_trans (sumW_mem (f:=fun k=>1+wgt (PE.v k)) hi) (PL.parts_w p)
def liftCaps (b u:Int):List V:=[.eptr [.int .i64 b] 0,.eptr [.int .i64 u] 0]
theorem liftCaps_ok (b u:Int):OkCaps (liftCaps b u):=fun H => .cons .eptr (.cons .eptr .nil)
theorem PE.ups_spec {e:PE} (h:e.ups=true):(0≤e.up∧e.up≤1000)∧(∀ k∈e.kids,k.ups=true)∧∀ p∈e.sub,∀ k∈p.parts,k.ups=true:=by
 rw [PE.ups_eq,upOk] at h
 simp only [Bool.and_eq_true,decide_eq_true_eq,List.all_eq_true] at h
 exact ⟨h.1,h.2.1,fun p hp k hk=>h.2.2 p hp k hk⟩
end Go.Proofs.Ytolhegocbkckdaa
