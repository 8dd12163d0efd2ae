/-
 Copies of plans' trees by the reference. Own work; no condition.
-/
import Derived.Test.YtolhegocbkckdaaMg46
namespace Go.Proofs.Ytolhegocbkckdaa
open Go
set_option linter.unusedSimpArgs false
set_option linter.unusedVariables false
theorem cvL_map0 {α : Type} {f : α → V} (h:∀ x,cv (f x)=0) (l:List α):cvL (l.map f)=0:=by
 induction l with
 | nil=>rfl
 | cons x l ih=>simp only [List.map_cons,cvL,h x,ih]
theorem specCopies_r (xs:List PE) (hl:xs.length≤1048576) (ih:∀ x∈xs,ToC Try.prog 35 x.v):ToC Try.prog 47 (.sl 0 (xs.map PE.toV)):=by
 intro s
 have hh:Hold s s.next [] := .start _ _
 refine LCalls.body Try.func47 rfl (by kernel_rfl) ?_
 repeat' first |(refine kOps ?_;first |(refine LOps.nil ?_) |(refine LOps.ev tT_ok rfl ?_) |(refine kBsl ?_;first |(refine LOps.bsl0 tT_ok rfl rfl rfl rfl rfl ?_))) |(refine kWL ?_;first |(refine WL.seq ?_) |(refine WL.region (by kernel_rfl) ?_) |(refine WL.block ?_)) |(refine lthen_n ?_)
 refine WL.zfamH (t:=3) 10 rfl rfl hh (fun s id hh=>?_)
 refine WL.loopH (fun y:Nat × List V × List V=>xs.length - y.1) (fun y=>[(0,.sl 0 (xs.map PE.toV)),(3,.sl id y.2.1),(4,.int .i64 (y.1:Int))]) (fun y=>[.acc id 10 y.2.1 y.2.2])
   (fun y=>y.1≤xs.length∧y.2.2=(xs.take y.1).map PE.toV) (0,[],[]) ⟨by simp,by simp⟩ ⟨rfl,rfl,rfl,trivial⟩ hh (by (repeat' first |(exact Sel.nil) |(exact Sel.refl _) |(refine' Sel.p ?_ ?_;rotate_left 1;(focus (((repeat' first |(exact Pick.here) |(refine' Pick.there ?_));done)))))) (fun y s hI hh=>?_)
 obtain ⟨i,us,ds⟩:=y
 obtain ⟨hi,hd⟩:=hI
 dsimp only at hi hd hh ⊢
 have hus:=hh.accLen 0 rfl
 have hdl:ds.length=i:=by rw [hd];simp;omega
 rcases Nat.lt_or_ge i xs.length with hlt | hge
 · have hga:(xs.map PE.toV)[i]?=some (PE.v xs[i]):=by rw [List.getElem?_map,List.getElem?_eq_getElem hlt];simp only [Option.map_some,PE.toV_eq]
   have hst:(xs.take (i+1)).map PE.toV=ds++[(xs[i]).v]:=by rw [hd,List.take_succ_eq_append_getElem hlt,List.map_append,List.map_cons,List.map_nil,PE.toV_eq]
   have hE:=ih xs[i] (List.getElem_mem hlt)
   generalize xs[i]=x at hga hst hE
   repeat' first |(refine kBsl ?_ ;refine' LOps.bslH tT_ok rfl rfl rfl rfl rfl rfl rfl rfl hh ?_ ?_ ?_ ;rotate_left 2 ;(focus ((repeat' first |(exact ConsL.nil) |(refine' Cons.bp ?_;((repeat' first |(exact Pick.here));done)) |(refine' ConsL.cons ?_ ?_));done)) ;(focus ((repeat' first |(exact ElsH.of rfl));done)) ;intro s n hh) |(refine kApp ?_ ;first |(refine' LOps.appH tT_ok 1 rfl rfl rfl rfl rfl rfl rfl rfl rfl rfl hh ?_ ?_ (AppB.of ?_ rfl) ?_ ;rotate_left 3 ;(focus (first |(refine' ConsSp.ap ?_;((repeat' first |(exact Pick.here));done)))) ;(focus ((repeat' first |(exact Elems.nil) |(refine Elems.ct rfl rfl ?_));done)) ;(focus (first | omega |(simp ;omega))) ;intro s hh)) |(refine kCallN 35 ?_ ;refine LOps.lendC rfl rfl rfl ok35 hh (.cons (.pl (PE.plainv x)) .nil) (fun t=>hE t) (PE.plainv _) ?_ ;intro s n hh) |(refine kOps ?_;first |(refine LOps.nil ?_) |(refine LOps.ev tT_ok rfl ?_) |(refine kLen ?_;first |(refine LOps.ans (AnsL.lenM tT_ok rfl rfl rfl) ?_)) |(refine kBin ?_;first |(refine LOps.ans (AnsL.add rfl rfl ?_) ?_;(focus (constructor <;> omega)))) |(refine kIdx ?_;first |(refine LOps.ans (AnsL.idx tT_ok rfl rfl rfl rfl rfl hga rfl rfl) ?_))) |(refine kWL ?_;first |(refine WL.seq ?_) |(refine WL.region (by kernel_rfl) ?_) |(refine WL.block ?_) |(refine WL.skip ?_) |(refine kCond ?_;first |(refine WL.condT' rfl ?_ ?_;(focus (first |(simp <;> omega)))))) |(refine lthen_n ?_) |(refine lblock_n ?_)
   all_goals
     refine' lbackH.of ((i+1,_,ds++[x.v])) ?_ hh ?_ ?_ ?_
     rotate_left 1
     · repeat' first | exact SubL.nil |(refine SubL.mk rfl ?_ ?_) | rfl |(simp [hst] <;> fail) |(simp [hst];omega)
     · first |((repeat' first |(exact Sel.nil) |(exact Sel.refl _) |(refine' Sel.p ?_ ?_;rotate_left 1;(focus (((repeat' first |(exact Pick.here) |(refine' Pick.there ?_));done)))));done) |(dsimp only;simp only [List.map_append,List.map_cons,List.map_nil];(repeat' first |(exact Sel.nil) |(exact Sel.refl _) |(refine' Sel.p ?_ ?_;rotate_left 1;(focus (((repeat' first |(exact Pick.here) |(refine' Pick.there ?_));done)))));done) |(dsimp only;simp only [List.map_append,List.map_cons,List.map_nil,hst];(repeat' first |(exact Sel.nil) |(exact Sel.refl _) |(refine' Sel.p ?_ ?_;rotate_left 1;(focus (((repeat' first |(exact Pick.here) |(refine' Pick.there ?_));done)))));done)
     · dsimp only;repeat' first | omega | assumption |(refine And.intro ?_ ?_) | rfl |(simp [hst] <;> fail) |(simp [hst];omega) |(simp_all [hst] <;> fail) |(simp_all [hst];omega)
     · dsimp only;first | omega |(simp;omega) |(simp_all;omega)
 · skip
   repeat' first |(refine kOps ?_;first |(refine LOps.nil ?_) |(refine LOps.ev tT_ok rfl ?_) |(refine kLen ?_;first |(refine LOps.ans (AnsL.lenM tT_ok rfl rfl rfl) ?_))) |(refine kWL ?_;first |(refine WL.seq ?_) |(refine WL.region (by kernel_rfl) ?_) |(refine WL.exit ?_) |(refine WL.ret ?_) |(refine kCond ?_;first |(refine WL.condF' rfl ?_ ?_;(focus (first |(simp <;> omega)))))) |(refine lthen_n ?_) |(refine lthen_e ?_) |(refine lblock_e ?_) |(refine lbackH_e ?_) |(refine LPost.r1 (r := .tmp 2) (.inl rfl) (Res1.tmp rfl) ?_)
   rw [List.take_of_length_le hge] at hd
   subst hd
   exact Own2.ofH hh (by ((repeat' first |(exact ConsL.nil) |(exact Cons.zsl) |(exact Cons.nilsl) |(refine' Cons.bp ?_;((repeat' first |(exact Pick.here) |(refine' Pick.there ?_));done)) |(refine' Cons.ap ?_;((repeat' first |(exact Pick.here) |(refine' Pick.there ?_));done)) |(exact Cons.blk 0 rfl rfl rfl) |(exact Cons.blk 1 rfl rfl rfl) |(exact Cons.blk 2 rfl rfl rfl) |(exact Cons.blk 3 rfl rfl rfl) |(exact Cons.blk 4 rfl rfl rfl) |(exact Cons.blk 5 rfl rfl rfl) |(exact Cons.pl rfl rfl) |(exact Cons.pl (by assumption) (by assumption)) |(refine' ConsL.cons ?_ ?_) |(exact ConsL.pls rfl rfl) |(exact ConsL.pls (by assumption) (by assumption)) |(refine' Cons.agg ?_));done))
set_option maxHeartbeats 4000000 in
theorem specCopyPlan_r (p:PL) (hw:wgt p.v≤1048576) (ih:∀ k∈p.parts,ToC Try.prog 35 k.v):ToC Try.prog 83 p.v:=by
 intro s
 have hh:Hold s s.next [] := .start _ _
 have hwe:=PL.wgt_eq p
 have l1:=wgt_len iV p.tables
 have l2:=wgt_len PE.vS p.on
 have l3:=wgt_len PE.toV p.wher
 have l4:=wgt_len PE.sv p.order
 have l5:=wgt_len PE.toV p.items
 have l6:=wgt_len sV p.names
 have hq1:=fun s=>specCopies_r p.wher (by omega) (fun x hx=>ih x (PlanOf.mem_wher hx)) s
 have hq2:=fun s=>specCopies_r p.items (by omega) (fun x hx=>ih x (PlanOf.mem_items hx)) s
 have hp1:V.plainL (p.tables.map iV)=true:=plainL_of (plain_IntS _)
 have hp2:cvL (p.tables.map iV)=0:=cvL_map0 (fun _=>rfl) _
 have hp3:V.plainL (p.names.map sV)=true:=plainL_of (plain_StringS _)
 have hp4:cvL (p.names.map sV)=0:=cvL_map0 (fun _=>rfl) _
 refine LCalls.body Try.func83 rfl (by kernel_rfl) ?_
 repeat' first |(refine kBox ?_ ;first |(refine LOps.boxH hh rfl rfl ?_ ;intro s n hh)) |(refine kAlloc ?_ ;refine LOps.allocH tT_ok hh rfl rfl ?_ ;intro s n hh) |(refine kOps ?_;first |(refine LOps.nil ?_)) |(refine kWL ?_;first |(refine WL.seq ?_) |(refine WL.region (by kernel_rfl) ?_)) |(refine lthen_n ?_)
 rename_i s0 hh0 s1 nP hh1
 rename Nat=>nR
 refine WL.cutH (fun x:Nat × Nat × Nat × Nat × Nat=>[(1,.ptr nP 0),(2,.ptr nR 0),(3,.ptr x.1 0)])
   (fun x=>[.cell x.1 [.sl x.2.1 (p.tables.map iV),.nilsl,(thw x.2.2.1 (.sl 0 (p.wher.map PE.toV))).1,.nilsl,(thw x.2.2.2.1 (.sl 0 (p.items.map PE.toV))).1,.sl x.2.2.2.2 (p.names.map sV),.bool p.distinct,.int .i64 p.limit],
     .cell nR [.nilsl,.nilsl,.nilsl,.nilsl,.nilsl,.nilsl,.bool false,.int .i64 0],.cell nP p.v.cells,
     .acc x.2.1 1 (p.tables.map iV) (p.tables.map iV),.blk x.2.2.1 (.sl 0 (p.wher.map PE.toV)),.blk x.2.2.2.1 (.sl 0 (p.items.map PE.toV)),.acc x.2.2.2.2 1 (p.names.map sV) (p.names.map sV)]) (fun _=>True) ?_ (fun x s _ hh=>?_)
 · skip
   repeat' first |(refine kAlloc ?_ ;refine LOps.allocH tT_ok hh rfl rfl ?_ ;intro s n hh) |(refine kStore ?_ ;first |(refine LOps.storeH tT_ok 0 hh rfl rfl rfl rfl rfl ?_ rfl rfl rfl ?_ ;(focus (repeat' first |(exact rfl) |(refine ones_cons (thw_one _ _ _) ?_) |(refine ones_cons rfl ?_))) ;intro s hh) |(refine LOps.storeH tT_ok 1 hh rfl rfl rfl rfl rfl ?_ rfl rfl rfl ?_ ;(focus (repeat' first |(exact rfl) |(refine ones_cons (thw_one _ _ _) ?_) |(refine ones_cons rfl ?_))) ;intro s hh) |(refine LOps.storeH tT_ok 2 hh rfl rfl rfl rfl rfl ?_ rfl rfl rfl ?_ ;(focus (repeat' first |(exact rfl) |(refine ones_cons (thw_one _ _ _) ?_) |(refine ones_cons rfl ?_))) ;intro s hh) |(refine LOps.storeH tT_ok 3 hh rfl rfl rfl rfl rfl ?_ rfl rfl rfl ?_ ;(focus (repeat' first |(exact rfl) |(refine ones_cons (thw_one _ _ _) ?_) |(refine ones_cons rfl ?_))) ;intro s hh) |(refine LOps.storeH tT_ok 4 hh rfl rfl rfl rfl rfl ?_ rfl rfl rfl ?_ ;(focus (repeat' first |(exact rfl) |(refine ones_cons (thw_one _ _ _) ?_) |(refine ones_cons rfl ?_))) ;intro s hh)) |(refine kApp ?_ ;first |(refine' LOps.appZ tT_ok rfl rfl rfl rfl rfl rfl rfl rfl hh ?_ ?_ (AppB.of ?_ rfl) ?_ ;rotate_left 3 ;(focus (first |(apply ConsSp.pl;(focus ((repeat' first |(exact ConsL.pls (by assumption) (by assumption)));done))))) ;(focus ((repeat' first |(exact Elems.map fun _=>rfl));done)) ;(focus (first | omega |(simp ;omega))) ;intro s n hh)) |(refine kCallN 47 ?_ ;first |(refine LOps.lendC rfl rfl rfl ok47 hh (.cons (.pl (plain_PExprS p.wher)) .nil) (fun t=>hq1 t) (plain_PExprS _) ?_ ;intro s n hh) |(refine LOps.lendC rfl rfl rfl ok47 hh (.cons (.pl (plain_PExprS p.items)) .nil) (fun t=>hq2 t) (plain_PExprS _) ?_ ;intro s n hh)) |(refine kOps ?_;first |(refine LOps.nil ?_)) |(refine kWL ?_;first |(refine WL.drawnO (id:=1) (.fl 0 (.fl 1 (.fl 2 (.fl 4 (.fl 5 (.fl 7 (.fl 8 (.fl 10 (.fl 11 (.fl 12 (.fl 14 (.fl 15 (.fl 16 (.fl 17 (.ef 3 (.ef 6 (.ef 9 (.ef 13 (.fl 18 (.ef 19 (.ef 20 .done .stop) .stop)) (.ef 19 (.ef 13 (.fl 18 (.ef 20 .done .stop)) .stop) .stop)) (.ef 19 (.ef 9 (.ef 13 (.fl 18 (.ef 20 .done .stop)) .stop) .stop) .stop)) (.ef 19 (.ef 6 (.ef 9 (.ef 13 (.fl 18 (.ef 20 .done .stop)) .stop) .stop) .stop) .stop)) (.ef 19 (.ef 3 (.ef 6 (.ef 9 (.ef 13 (.fl 18 (.ef 20 .done .stop)) .stop) .stop) .stop) .stop) .stop)))))))))))))))) [3,6,9,13,19,20] [[],[],[1],[0,1,2],[],[4],[0,1,2,3,4,5],[],[7],[0,1,2,3,4,5,6,7,8],[],[],[11],[0,1,2,3,4,5,6,7,8,9,10,11,12],[],[14],[],[16],[0,1,2,3,4,5,6,7,8,9,10,11,12,13,14,15,16,17],[],[0,1,2,3,4,5,6,7,8,9,10,11,12,13,14,15,16,17,18,19]] (by kernel_rfl) (by kernel_rfl) ?_)) |(refine kDt ?_;first |(exact LDt.stop) |(refine LDt.done ?_) |(refine LDt.fl rfl (.ev tT_ok rfl) ?_) |(refine LDt.fl rfl (AnsL.bslZ tT_ok rfl rfl rfl rfl rfl) ?_) |(refine LDt.fl rfl (AnsL.loadH tT_ok 1 hh rfl rfl rfl rfl) ?_) |(refine' LDt.fl (v := .agg _) rfl (AnsL.buildE tT_ok rfl rfl rfl ?_) ?_;rotate_left 1;(focus ((repeat' first |(exact Fills.nil) |(refine' Fills.cons rfl rfl rfl rfl ?_) |(refine' Fills.cons rfl (thw_cellsO _ _ _) rfl rfl ?_));done))) |(refine LDt.ef rfl rfl ?_ ?_)) |(refine And.intro ?_ ?_) |(exact StsL.nil) |(refine StsL.cons ?_ ?_) |(refine StL.fl rfl rfl (.ev tT_ok rfl)) |(refine StL.fl rfl rfl (AnsL.bslZ tT_ok rfl rfl rfl rfl rfl)) |(refine StL.fl rfl rfl (AnsL.buildE tT_ok rfl rfl rfl ?_);(focus ((repeat' first |(exact Fills.nil) |(refine' Fills.cons rfl rfl rfl rfl ?_) |(refine' Fills.cons rfl (thw_cellsO _ _ _) rfl rfl ?_));done))) |(refine StL.fl rfl rfl (AnsL.loadH tT_ok 2 hh rfl rfl rfl rfl)) |(refine StL.fl rfl rfl (AnsL.loadH tT_ok 3 hh rfl rfl rfl rfl)) |(refine StL.fl rfl rfl (AnsL.loadH tT_ok 4 hh rfl rfl rfl rfl)) |(refine StL.fl rfl rfl (AnsL.loadH tT_ok 5 hh rfl rfl rfl rfl)) |(refine StL.fl rfl rfl (AnsL.loadH tT_ok 6 hh rfl rfl rfl rfl))
   all_goals
     refine' CutH.of ((_,_,_,_,_)) ?_ hh ?_ ?_
     rotate_left 5
     · repeat' first | exact SubL.nil |(refine SubL.mk rfl ?_ ?_) | rfl |(simp [] <;> fail) |(simp [];omega)
     · dsimp only;(repeat' first |(exact Sel.nil) |(exact Sel.refl _) |(refine' Sel.p ?_ ?_;rotate_left 1;(focus (((repeat' first |(exact Pick.here) |(refine' Pick.there ?_));done)))))
     · dsimp only;repeat' first | exact trivial | assumption | omega |(refine And.intro ?_ ?_) | rfl |(simp [] <;> fail)
 obtain ⟨nO,na,nw,ni,nb⟩:=x
 dsimp only at hh ⊢
 repeat' first |(refine kOps ?_;first |(refine LOps.nil ?_) |(refine LOps.ev tT_ok rfl ?_)) |(refine kWL ?_;first |(refine WL.seq ?_) |(refine WL.region (by kernel_rfl) ?_) |(refine WL.block ?_)) |(refine lthen_n ?_)
 refine WL.zfamC 0 1 1 rfl rfl rfl hh (fun s id hh=>?_)
 replace hh:=hh _ rfl _ rfl
 refine WL.loopH (fun y:Nat × List V × List V=>p.on.length - y.1) (fun y=>[(1,.ptr nP 0),(2,.ptr nR 0),(3,.ptr nO 0),(4,.int .i64 (y.1:Int))])
   (fun y=>[.acc id 1 y.2.1 y.2.2,.cell nO [.sl na (p.tables.map iV),.sl id y.2.1,(thw nw (.sl 0 (p.wher.map PE.toV))).1,.nilsl,(thw ni (.sl 0 (p.items.map PE.toV))).1,.sl nb (p.names.map sV),.bool p.distinct,.int .i64 p.limit],
     .cell nR [.nilsl,.nilsl,.nilsl,.nilsl,.nilsl,.nilsl,.bool false,.int .i64 0],.cell nP p.v.cells,.acc na 1 (p.tables.map iV) (p.tables.map iV),.blk nw (.sl 0 (p.wher.map PE.toV)),.blk ni (.sl 0 (p.items.map PE.toV)),.acc nb 1 (p.names.map sV) (p.names.map sV)])
   (fun y=>y.1≤p.on.length∧y.2.2=(p.on.take y.1).map PE.vS) (0,[],[]) ⟨by simp,by simp⟩ ⟨rfl,rfl,rfl,rfl,trivial⟩ hh (by (repeat' first |(exact Sel.nil) |(exact Sel.refl _) |(refine' Sel.p ?_ ?_;rotate_left 1;(focus (((repeat' first |(exact Pick.here) |(refine' Pick.there ?_));done)))))) (fun y s hI hh=>?_)
 obtain ⟨i,us,ds⟩:=y
 obtain ⟨hi,hd⟩:=hI
 dsimp only at hi hd hh ⊢
 have hus:=hh.accLen 0 rfl
 have hdl:ds.length=i:=by rw [hd];simp;omega
 rcases Nat.lt_or_ge i p.on.length with hlt | hge
 · have hga:(p.on.map PE.vS)[i]?=some (PE.vS p.on[i]):=by rw [List.getElem?_map,List.getElem?_eq_getElem hlt];rfl
   have hst:(p.on.take (i+1)).map PE.vS=ds++[PE.vS p.on[i]]:=by rw [hd,List.take_succ_eq_append_getElem hlt,List.map_append];rfl
   have hmm:=fun s=>specCopies_r p.on[i] (by have k1:=PL.wgt_on (List.getElem_mem hlt);have k2:=wgt_len PE.toV p.on[i];omega) (fun x hx=>ih x (PlanOf.mem_on (List.getElem_mem hlt) hx)) s
   generalize p.on[i]=l at hga hst hmm
   repeat' first |(refine kStore ?_ ;first |(refine LOps.storeH tT_ok 1 hh rfl rfl rfl rfl rfl rfl rfl rfl rfl ?_ ;intro s hh)) |(refine kApp ?_ ;first |(refine' LOps.appH tT_ok 1 rfl rfl rfl rfl rfl rfl rfl rfl rfl rfl hh ?_ ?_ (AppB.of ?_ rfl) ?_ ;rotate_left 3 ;(focus (first |(apply ConsSp.pl;(focus ((repeat' first |(exact ConsL.nil) |(refine' Cons.bp ?_;((repeat' first |(exact Pick.here));done)) |(refine' ConsL.cons ?_ ?_));done))))) ;(focus ((repeat' first |(exact Elems.nil) |(refine Elems.ct rfl rfl ?_));done)) ;(focus (first | omega |(simp ;omega))) ;intro s hh)) |(refine kCallN 47 ?_ ;refine LOps.lendC rfl rfl rfl ok47 hh (.cons (.pl (plain_PExprS l)) .nil) (fun t=>hmm t) (plain_PExprS _) ?_ ;intro s n hh) |(refine kOps ?_;first |(refine LOps.nil ?_) |(refine LOps.ev tT_ok rfl ?_) |(refine kLoad ?_;first |(refine LOps.ans (AnsL.loadH tT_ok 3 hh rfl rfl rfl rfl) ?_)) |(refine kLen ?_;first |(refine LOps.ans (AnsL.lenM tT_ok rfl rfl rfl) ?_)) |(refine kBin ?_;first |(refine LOps.ans (AnsL.add rfl rfl ?_) ?_;(focus (constructor <;> omega))))) |(refine kWL ?_;first |(refine WL.seq ?_) |(refine WL.region (by kernel_rfl) ?_) |(refine WL.drawn (id:=5) [0,1,2,3,4,5,6,7,8,9,10,11] [7,9,11] [[],[0],[],[2],[],[2,3,4],[2,3,4,5],[2,3,4,5,6],[2,3,4,5,6,7],[0,1,2,3,4,5,6,7,8],[0,1,2,3,4,5,6,7,8,9],[0,1,2,3,4,5,6,7,8,9,10]] (by kernel_rfl) (by kernel_rfl) ?_) |(refine WL.block ?_) |(refine WL.skip ?_) |(refine kCond ?_;first |(refine WL.condT' rfl ?_ ?_;(focus (first |(simp <;> omega)))))) |(refine kDr ?_;first |(refine LDr.nil ?_) |(refine LDr.fl rfl rfl (.ev tT_ok rfl) ?_) |(refine LDr.fl rfl rfl (AnsL.bslE tT_ok rfl rfl rfl rfl rfl rfl rfl rfl ?_) ?_;(focus ((repeat' first |(exact ElsH.nil) |(refine ElsH.ct rfl rfl ?_));done))) |(refine kDLoad rfl ?_;first |(refine LDr.fl rfl rfl (AnsL.loadH tT_ok 1 hh rfl rfl rfl rfl) ?_) |(refine LDr.fl rfl rfl (AnsL.loadH tT_ok 3 hh rfl rfl rfl rfl) ?_)) |(refine kDIdx rfl ?_;first |(refine LDr.fl rfl rfl (AnsL.idx tT_ok rfl rfl rfl rfl rfl hga rfl rfl) ?_)) |(refine LDr.eff rfl rfl rfl ?_)) |(refine lthen_n ?_) |(refine lblock_n ?_) |(refine And.intro ?_ ?_) |(exact StsL.nil) |(refine StsL.cons ?_ ?_) |(refine StL.fl rfl rfl (.ev tT_ok rfl)) |(refine StL.fl rfl rfl (AnsL.loadH tT_ok 2 hh rfl rfl rfl rfl))
   all_goals
     refine' lbackH.of ((i+1,_,ds++[PE.vS l])) ?_ hh ?_ ?_ ?_
     rotate_left 1
     · repeat' first | exact SubL.nil |(refine SubL.mk rfl ?_ ?_) | rfl |(simp [hst] <;> fail) |(simp [hst];omega)
     · first |((repeat' first |(exact Sel.nil) |(exact Sel.refl _) |(refine' Sel.p ?_ ?_;rotate_left 1;(focus (((repeat' first |(exact Pick.here) |(refine' Pick.there ?_));done)))));done) |(dsimp only;simp only [List.map_append,List.map_cons,List.map_nil];(repeat' first |(exact Sel.nil) |(exact Sel.refl _) |(refine' Sel.p ?_ ?_;rotate_left 1;(focus (((repeat' first |(exact Pick.here) |(refine' Pick.there ?_));done)))));done) |(dsimp only;simp only [List.map_append,List.map_cons,List.map_nil,hst];(repeat' first |(exact Sel.nil) |(exact Sel.refl _) |(refine' Sel.p ?_ ?_;rotate_left 1;(focus (((repeat' first |(exact Pick.here) |(refine' Pick.there ?_));done)))));done)
     · dsimp only;repeat' first | omega | assumption |(refine And.intro ?_ ?_) | rfl |(simp [hst] <;> fail) |(simp [hst];omega) |(simp_all [hst] <;> fail) |(simp_all [hst];omega)
     · dsimp only;first | omega |(simp;omega) |(simp_all;omega)
 have e1:i=p.on.length:=by omega
 subst e1
 rw [List.take_length] at hd
 repeat' first |(refine kOps ?_;first |(refine LOps.nil ?_) |(refine LOps.ev tT_ok rfl ?_) |(refine kLoad ?_;first |(refine LOps.ans (AnsL.loadH tT_ok 3 hh rfl rfl rfl rfl) ?_)) |(refine kLen ?_;first |(refine LOps.ans (AnsL.lenM tT_ok rfl rfl rfl) ?_))) |(refine kWL ?_;first |(refine WL.seq ?_) |(refine WL.region (by kernel_rfl) ?_) |(refine WL.block ?_) |(refine WL.exit ?_) |(refine kCond ?_;first |(refine WL.condF' rfl ?_ ?_;(focus (first |(simp <;> omega)))))) |(refine lthen_n ?_) |(refine lthen_e ?_) |(refine lblock_e ?_) |(refine lbackH_e ?_)
 refine WL.zfamC 1 3 11 rfl rfl rfl hh (fun s ido hh=>?_)
 replace hh:=hh _ rfl _ rfl
 refine WL.loopH (fun y:Nat × List V × List V=>p.order.length - y.1) (fun y=>[(1,.ptr nP 0),(2,.ptr nR 0),(3,.ptr nO 0),(5,.int .i64 (y.1:Int))])
   (fun y=>[.acc ido 11 y.2.1 y.2.2,.cell nO [.sl na (p.tables.map iV),.sl id us,(thw nw (.sl 0 (p.wher.map PE.toV))).1,.sl ido y.2.1,(thw ni (.sl 0 (p.items.map PE.toV))).1,.sl nb (p.names.map sV),.bool p.distinct,.int .i64 p.limit],
     .cell nR [.nilsl,.nilsl,.nilsl,.nilsl,.nilsl,.nilsl,.bool false,.int .i64 0],.cell nP p.v.cells,.acc id 1 us ds,.acc na 1 (p.tables.map iV) (p.tables.map iV),.blk nw (.sl 0 (p.wher.map PE.toV)),.blk ni (.sl 0 (p.items.map PE.toV)),.acc nb 1 (p.names.map sV) (p.names.map sV)])
   (fun y=>y.1≤p.order.length∧y.2.2=(p.order.take y.1).map PE.sv) (0,[],[]) ⟨by simp,by simp⟩ ⟨rfl,rfl,rfl,rfl,trivial⟩ hh (by (repeat' first |(exact Sel.nil) |(exact Sel.refl _) |(refine' Sel.p ?_ ?_;rotate_left 1;(focus (((repeat' first |(exact Pick.here) |(refine' Pick.there ?_));done)))))) (fun y s hI hh=>?_)
 obtain ⟨i,us2,ds2⟩:=y
 obtain ⟨hi,hd2⟩:=hI
 dsimp only at hi hd2 hh ⊢
 have hus2:=hh.accLen 0 rfl
 have hdl2:ds2.length=i:=by rw [hd2];simp;omega
 rcases Nat.lt_or_ge i p.order.length with hlt | hge
 · have hga:(p.order.map PE.sv)[i]?=some (PE.sv p.order[i]):=by rw [List.getElem?_map,List.getElem?_eq_getElem hlt];rfl
   have hst:(p.order.take (i+1)).map PE.sv=ds2++[PE.sv p.order[i]]:=by rw [hd2,List.take_succ_eq_append_getElem hlt,List.map_append];rfl
   have hE:=ih p.order[i].1 (PlanOf.mem_order (List.getElem_mem hlt))
   generalize p.order[i]=x at hga hst hE
   repeat' first |(refine kStore ?_ ;first |(refine LOps.storeH tT_ok 1 hh rfl rfl rfl rfl rfl rfl rfl rfl rfl ?_ ;intro s hh)) |(refine kApp ?_ ;first |(refine' LOps.appH tT_ok 1 rfl rfl rfl rfl rfl rfl rfl rfl rfl rfl hh ?_ ?_ (AppB.of ?_ rfl) ?_ ;rotate_left 3 ;(focus (first |(apply ConsSp.pl;(focus ((repeat' first |(exact ConsL.nil) |(exact Cons.blk 0 rfl rfl rfl) |(refine' ConsL.cons ?_ ?_));done))))) ;(focus ((repeat' first |(exact Elems.nil) |(refine' Elems.cg rfl ?_ ?_;(focus (repeat' first |(exact rfl) |(refine ones_cons (thw_one _ _ _) ?_) |(refine ones_cons rfl ?_)))));done)) ;(focus (first | omega |(simp ;omega))) ;intro s hh)) |(refine kCallN 35 ?_ ;refine LOps.lendC rfl rfl rfl ok35 hh (.cons (.pl (PE.plainv x.1)) .nil) (fun t=>hE t) (PE.plainv _) ?_ ;intro s n hh ;replace hh:=hh.sv x.2) |(refine kOps ?_;first |(refine LOps.nil ?_) |(refine LOps.ev tT_ok rfl ?_) |(refine kLoad ?_;first |(refine LOps.ans (AnsL.loadH tT_ok 3 hh rfl rfl rfl rfl) ?_)) |(refine kLen ?_;first |(refine LOps.ans (AnsL.lenM tT_ok rfl rfl rfl) ?_)) |(refine kBin ?_;first |(refine LOps.ans (AnsL.add rfl rfl ?_) ?_;(focus (constructor <;> omega))))) |(refine kWL ?_;first |(refine WL.seq ?_) |(refine WL.region (by kernel_rfl) ?_) |(refine WL.drawn (id:=9) [0,1,2,3,4,5,6,7,9,10,11,12,13,14,8,15,16,17,18,19] [8,17,19] [[],[0],[],[2],[],[2,3,4],[2,3,4,5],[2,3,4,5,6],[2,3,4,5,6,7],[],[9],[],[9,10,11],[9,10,11,12],[9,10,11,12,13],[2,3,4,5,6,7,8,9,10,11,12,13,14],[2,3,4,5,6,7,8,9,10,11,12,13,14,15],[0,1,2,3,4,5,6,7,8,9,10,11,12,13,14,15,16],[0,1,2,3,4,5,6,7,8,9,10,11,12,13,14,15,16,17],[0,1,2,3,4,5,6,7,8,9,10,11,12,13,14,15,16,17,18]] (by kernel_rfl) (by kernel_rfl) ?_) |(refine WL.block ?_) |(refine WL.skip ?_) |(refine kCond ?_;first |(refine WL.condT' rfl ?_ ?_;(focus (first |(simp <;> omega)))))) |(refine kDr ?_;first |(refine LDr.nil ?_) |(refine LDr.fl rfl rfl (.ev tT_ok rfl) ?_) |(refine LDr.fl rfl rfl (AnsL.bslF tT_ok rfl rfl rfl rfl rfl rfl rfl rfl rfl) ?_) |(refine kDLoad rfl ?_;first |(refine LDr.fl rfl rfl (AnsL.loadH tT_ok 1 hh rfl rfl rfl rfl) ?_) |(refine LDr.fl rfl rfl (AnsL.loadH tT_ok 3 hh rfl rfl rfl rfl) ?_)) |(refine kDIdx rfl ?_;first |(refine LDr.fl rfl rfl (AnsL.idx tT_ok rfl rfl rfl rfl rfl hga rfl rfl) ?_)) |(refine LDr.eff rfl rfl rfl ?_)) |(refine lthen_n ?_) |(refine lblock_n ?_) |(refine And.intro ?_ ?_) |(exact StsL.nil) |(refine StsL.cons ?_ ?_) |(refine StL.fl rfl rfl (.ev tT_ok rfl)) |(refine StL.fl rfl rfl (AnsL.loadH tT_ok 2 hh rfl rfl rfl rfl)) |(refine StL.fl rfl rfl (AnsL.loadH tT_ok 4 hh rfl rfl rfl rfl)) |(refine StL.fl rfl rfl (AnsL.idx tT_ok rfl rfl rfl rfl rfl hga rfl rfl))
   all_goals
     refine' lbackH.of ((i+1,_,ds2++[PE.sv x])) ?_ hh ?_ ?_ ?_
     rotate_left 1
     · repeat' first | exact SubL.nil |(refine SubL.mk rfl ?_ ?_) | rfl |(simp [hst] <;> fail) |(simp [hst];omega)
     · first |((repeat' first |(exact Sel.nil) |(exact Sel.refl _) |(refine' Sel.p ?_ ?_;rotate_left 1;(focus (((repeat' first |(exact Pick.here) |(refine' Pick.there ?_));done)))));done) |(dsimp only;simp only [List.map_append,List.map_cons,List.map_nil];(repeat' first |(exact Sel.nil) |(exact Sel.refl _) |(refine' Sel.p ?_ ?_;rotate_left 1;(focus (((repeat' first |(exact Pick.here) |(refine' Pick.there ?_));done)))));done) |(dsimp only;simp only [List.map_append,List.map_cons,List.map_nil,hst];(repeat' first |(exact Sel.nil) |(exact Sel.refl _) |(refine' Sel.p ?_ ?_;rotate_left 1;(focus (((repeat' first |(exact Pick.here) |(refine' Pick.there ?_));done)))));done)
     · dsimp only;repeat' first | omega | assumption |(refine And.intro ?_ ?_) | rfl |(simp [hst] <;> fail) |(simp [hst];omega) |(simp_all [hst] <;> fail) |(simp_all [hst];omega)
     · dsimp only;first | omega |(simp;omega) |(simp_all;omega)
 have e1:i=p.order.length:=by omega
 subst e1
 rw [List.take_length] at hd2
 repeat' first |(refine kStore ?_ ;first |(refine LOps.storeH tT_ok 2 hh rfl rfl rfl rfl rfl ?_ rfl rfl rfl ?_ ;(focus (repeat' first |(exact rfl) |(refine ones_cons (thw_one _ _ _) ?_) |(refine ones_cons rfl ?_))) ;intro s hh)) |(refine kOps ?_;first |(refine LOps.nil ?_) |(refine LOps.ev tT_ok rfl ?_) |(refine kLoad ?_;first |(refine LOps.ans (AnsL.loadH tT_ok 1 hh rfl rfl rfl rfl) ?_) |(refine LOps.ans (AnsL.loadH tT_ok 3 hh rfl rfl rfl rfl) ?_)) |(refine kLen ?_;first |(refine LOps.ans (AnsL.lenM tT_ok rfl rfl rfl) ?_))) |(refine kWL ?_;first |(refine WL.seq ?_) |(refine WL.region (by kernel_rfl) ?_) |(refine WL.exit ?_) |(refine WL.ret ?_) |(refine kCond ?_;first |(refine WL.condF' rfl ?_ ?_;(focus (first |(simp <;> omega)))))) |(refine lthen_n ?_) |(refine lthen_e ?_) |(refine lblock_e ?_) |(refine lbackH_e ?_) |(refine' LPost.r1 (r := .cell 2 44) (.inl rfl) ?_ ?_;rotate_left 1;(focus (first | exact Res1.cellH 0 tT_ok hh rfl rfl rfl rfl | exact Res1.cellH 1 tT_ok hh rfl rfl rfl rfl | exact Res1.cellH 2 tT_ok hh rfl rfl rfl rfl | exact Res1.cellH 3 tT_ok hh rfl rfl rfl rfl | exact Res1.cellH 4 tT_ok hh rfl rfl rfl rfl | exact Res1.cellH 5 tT_ok hh rfl rfl rfl rfl | exact Res1.cellH 6 tT_ok hh rfl rfl rfl rfl | exact Res1.cellH 7 tT_ok hh rfl rfl rfl rfl | exact Res1.cellHW 0 tT_ok hh rfl rfl rfl rfl | exact Res1.cellHW 1 tT_ok hh rfl rfl rfl rfl | exact Res1.cellHW 2 tT_ok hh rfl rfl rfl rfl | exact Res1.cellHW 3 tT_ok hh rfl rfl rfl rfl | exact Res1.cellHW 4 tT_ok hh rfl rfl rfl rfl | exact Res1.cellHW 5 tT_ok hh rfl rfl rfl rfl | exact Res1.cellHW 6 tT_ok hh rfl rfl rfl rfl | exact Res1.cellHW 7 tT_ok hh rfl rfl rfl rfl)))
 subst hd
 subst hd2
 exact Own2.ofH hh (by ((repeat' first |(exact ConsL.nil) |(exact Cons.zsl) |(exact Cons.nilsl) |(refine' Cons.bp ?_;((repeat' first |(exact Pick.here) |(refine' Pick.there ?_));done)) |(refine' Cons.ap ?_;((repeat' first |(exact Pick.here) |(refine' Pick.there ?_));done)) |(exact Cons.blk 0 rfl rfl rfl) |(exact Cons.blk 1 rfl rfl rfl) |(exact Cons.blk 2 rfl rfl rfl) |(exact Cons.blk 3 rfl rfl rfl) |(exact Cons.blk 4 rfl rfl rfl) |(exact Cons.blk 5 rfl rfl rfl) |(exact Cons.pl rfl rfl) |(exact Cons.pl (by assumption) (by assumption)) |(refine' ConsL.cons ?_ ?_) |(exact ConsL.pls rfl rfl) |(exact ConsL.pls (by assumption) (by assumption)) |(refine' Cons.agg ?_));done))
end Go.Proofs.Ytolhegocbkckdaa
