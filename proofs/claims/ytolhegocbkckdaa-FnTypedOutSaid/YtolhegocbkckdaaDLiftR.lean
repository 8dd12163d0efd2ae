/-
 Lifting by the reference (the parts that the law on lifting needs). Own work; no condition.
-/
import Derived.Test.YtolhegocbkckdaaDLiftP
import Derived.Test.YtolhegocbkckdaaMg48
namespace Go.Proofs.Ytolhegocbkckdaa
open Go
set_option linter.unusedSimpArgs false
set_option linter.unusedVariables false
set_option maxHeartbeats 8000000 in
theorem specLiftPlan_r (p:PL) (b u:Int) (hw:wgt p.v≤1048576) (ih:∀ k∈p.parts,TurnF Try.prog 38 (liftA b u) k.v (k.lf b u).v):TurnF Try.prog 84 (liftA b u) p.v (PL.map (PE.lf b u) p).v:=by
 intro s H nb hh
 have hwe:=PL.wgt_eq p
 have l2:=wgt_len PE.vS p.on
 have l3:=wgt_len PE.toV p.wher
 have l4:=wgt_len PE.sv p.order
 have l5:=wgt_len PE.toV p.items
 obtain ⟨n1,e1⟩:∃ x,x=nb+cv (.sl 0 (p.tables.map iV)):=⟨_,rfl⟩
 obtain ⟨n2,e2⟩:∃ x,x=n1+cv (.sl 0 (p.on.map PE.vS)):=⟨_,rfl⟩
 obtain ⟨n3,e3⟩:∃ x,x=n2+cv (.sl 0 (p.wher.map PE.toV)):=⟨_,rfl⟩
 obtain ⟨n4,e4⟩:∃ x,x=n3+cv (.sl 0 (p.order.map PE.sv)):=⟨_,rfl⟩
 obtain ⟨n5,e5⟩:∃ x,x=n4+cv (.sl 0 (p.items.map PE.toV)):=⟨_,rfl⟩
 obtain ⟨n6,e6⟩:∃ x,x=n5+cv (.sl 0 (p.names.map sV)):=⟨_,rfl⟩
 replace hh:=hh.splitPL e1 e2 e3 e4 e5 e6
 unfold liftA
 rw [PL.thw_v p e1 e2 e3 e4 e5]
 have hcE:∀ x:PE,cv (PE.toV (PE.lf b u x))=cv (PE.toV x):=fun x=>by rw [PE.toV_eq,PE.toV_eq];exact PE.lf_cv b x u
 have hcS:∀ x:PE × Bool,cv (PE.sv (PE.lf b u x.1,x.2))=cv (PE.sv x):=fun x=>by
   have h2:∀ x:PE × Bool,cv (PE.sv x)=cv x.1.v:=fun x=>by simp only [PE.sv,PE.v,cv,cvL]
   rw [h2,h2]
   exact PE.lf_cv b x.1 u
 refine LCalls.body0 Try.func84 rfl (by kernel_rfl) ?_
 repeat' first |(refine kBox ?_ ;first |(refine LOps.boxH hh rfl rfl ?_ ;intro s n hh)) |(refine kAlloc ?_ ;refine LOps.allocH tT_ok hh rfl rfl ?_ ;intro s n hh) |(refine kOps ?_;first |(refine LOps.nil ?_) |(refine LOps.ev tT_ok rfl ?_)) |(refine kWL ?_;first |(refine WL.seq ?_) |(refine WL.region (by kernel_rfl) ?_) |(refine WL.block ?_)) |(refine lthen_n ?_)
 rename_i s1 nE hh1
 rename Nat=>nR
 refine WL.loopTurn n1 1 p.on PE.vS (List.map (PE.lf b u)) (fun i=>[(1,.int .i64 b),(2,.int .i64 u),(3,.ptr nE 0),(6,.ptr nR 0),(7,.int .i64 (i:Int))])
   (.cell nE [(thw nb (.sl 0 (p.tables.map iV))).1,(thw n1 (.sl 0 (p.on.map PE.vS))).1,(thw n2 (.sl 0 (p.wher.map PE.toV))).1,(thw n3 (.sl 0 (p.order.map PE.sv))).1,(thw n4 (.sl 0 (p.items.map PE.toV))).1,(thw n5 (.sl 0 (p.names.map sV))).1,.bool p.distinct,.int .i64 p.limit] ::
     .cell nR [.nilsl,.nilsl,.nilsl,.nilsl,.nilsl,.nilsl,.bool false,.int .i64 0] :: .blk n6 (.agg p.rest) :: .blk n5 (.sl 0 (p.names.map sV)) :: .blk n4 (.sl 0 (p.items.map PE.toV)) :: .blk n3 (.sl 0 (p.order.map PE.sv)) :: .blk n2 (.sl 0 (p.wher.map PE.toV)) :: .blk nb (.sl 0 (p.tables.map iV))::H)
   (fun _=>rfl) (fun l _=>(cv_slE PE.toV (PE.lf b u) l fun x _=>hcE x).2) (fun l=>plain_PExprS l) ⟨rfl,rfl,rfl,rfl,rfl,trivial⟩ hh (by (repeat' first |(exact Sel.nil) |(exact Sel.refl _) |(refine' Sel.p ?_ ?_;rotate_left 1;(focus (((repeat' first |(exact Pick.here) |(refine' Pick.there ?_));done)))))) (fun i hi s m m' A Z CA CZ hq hh=>?_) (fun s hh=>?_)
 · have hI:=fun x hx=>ih x (PlanOf.mem_on (List.getElem_mem hi) hx)
   have hj:i<(p.on.map PE.vS).length:=by rw [List.length_map];exact hi
   have hll:p.on[i].length≤1048576:=by have k1:=PL.wgt_on (List.getElem_mem hi);have k2:=wgt_len PE.toV p.on[i];omega
   generalize p.on[i]=l at hh hI hll ⊢
   have hc1:(thw m (PE.vS l)).1.cells=[(thw m (.sl 0 (l.map PE.toV))).1]:=thw_sl_cells m 0 _
   have hc2:(thw m (PE.vS (l.map (PE.lf b u)))).1.cells=[(thw m (.sl 0 (l.map PE.toV))).1]:=by
     have:(thw m (PE.vS (l.map (PE.lf b u)))).1.cells=[(thw m (.sl 0 ((l.map (PE.lf b u)).map PE.toV))).1]:=thw_sl_cells m 0 _
     rw [this,thw_slE (by simp) (cv_slE PE.toV (PE.lf b u) l fun x _=>hcE x).1]
   rw [hc1] at hh
   rw [hc2]
   repeat' first |(refine kOps ?_;first |(refine LOps.nil ?_) |(refine LOps.ev tT_ok rfl ?_) |(refine kLoad ?_;first |(refine LOps.ans (AnsL.loadH tT_ok 4 hh rfl rfl rfl rfl) ?_)) |(refine kLen ?_;first |(refine LOps.ans (AnsL.lenTM (n:=n1) (zs:=p.on) (f:=PE.vS) tT_ok rfl rfl rfl rfl) ?_))) |(refine kWL ?_;first |(refine WL.seq ?_) |(refine WL.region (by kernel_rfl) ?_) |(refine WL.block ?_) |(refine WL.skip ?_) |(refine kCond ?_;first |(refine WL.condT' rfl ?_ ?_;(focus (first |(simp <;> omega)))))) |(refine lthen_n ?_)
   refine WL.loopTurn m 10 l PE.toV (PE.lf b u) (fun j=>[(1,.int .i64 b),(2,.int .i64 u),(3,.ptr nE 0),(6,.ptr nR 0),(7,.int .i64 (i:Int)),(8,.int .i64 (j:Int))])
     (.cell (n1+cvL (p.on.map PE.vS)) (CA++([(thw m (.sl 0 (l.map PE.toV))).1]++CZ)) :: .blk n1 (.agg A) :: .blk m' (.agg Z) :: .cell nE [(thw nb (.sl 0 (p.tables.map iV))).1,(thw n1 (.sl 0 (p.on.map PE.vS))).1,(thw n2 (.sl 0 (p.wher.map PE.toV))).1,(thw n3 (.sl 0 (p.order.map PE.sv))).1,(thw n4 (.sl 0 (p.items.map PE.toV))).1,(thw n5 (.sl 0 (p.names.map sV))).1,.bool p.distinct,.int .i64 p.limit] :: .cell nR [.nilsl,.nilsl,.nilsl,.nilsl,.nilsl,.nilsl,.bool false,.int .i64 0] :: .blk n6 (.agg p.rest) :: .blk n5 (.sl 0 (p.names.map sV)) :: .blk n4 (.sl 0 (p.items.map PE.toV)) :: .blk n3 (.sl 0 (p.order.map PE.sv)) :: .blk n2 (.sl 0 (p.wher.map PE.toV)) :: .blk nb (.sl 0 (p.tables.map iV))::H)
     PE.cells_len (fun x _=>hcE x) PE.plain ⟨rfl,rfl,rfl,rfl,rfl,rfl,trivial⟩ hh (by (repeat' first |(exact Sel.nil) |(exact Sel.refl _) |(refine' Sel.p ?_ ?_;rotate_left 1;(focus (((repeat' first |(exact Pick.here) |(refine' Pick.there ?_));done)))))) (fun j hi2 s k k' A2 Z2 CA2 CZ2 hq2 hh=>?_) (fun s hh=>?_)
   · have hI:=hI l[j] (List.getElem_mem hi2)
     have hj2:j<(l.map PE.toV).length:=by rw [List.length_map];exact hi2
     rw [PE.toV_eq] at hh
     rw [PE.toV_eq]
     generalize l[j]=x at hh hI ⊢
     unfold liftA at hI
     repeat' first |(refine kCallN 38 ?_ ;refine LOps.turnH 1 rfl hI rfl ok38 hh rfl rfl ?_ ;intro s hh) |(refine kStore ?_ ;refine LOps.storeHE (q:=j*10) tT_ok 1 0 hh rfl rfl hq2 rfl rfl rfl rfl rfl ?_ rfl rfl rfl ?_ ;(focus (repeat' first | exact rfl |(refine ones_cons (thw_one _ _ _) ?_) |(refine ones_cons rfl ?_))) ;intro s hh) |(refine kOps ?_;first |(refine LOps.nil ?_) |(refine LOps.ev tT_ok rfl ?_) |(refine kLoad ?_;first |(refine LOps.ans (AnsL.loadH tT_ok 7 hh rfl rfl rfl rfl) ?_) |(refine LOps.ans (AnsL.loadHE (q:=i*1) tT_ok 4 0 hh rfl rfl hq rfl rfl rfl rfl) ?_)) |(refine kLen ?_;first |(refine LOps.ans (AnsL.lenTM (n:=m) (zs:=l) (f:=PE.toV) tT_ok rfl rfl rfl rfl) ?_)) |(refine kBin ?_;first |(refine LOps.ans (AnsL.add rfl rfl ?_) ?_;(focus (constructor <;> omega)))) |(refine kIdx ?_;first |(refine LOps.ans (AnsL.idxT (n:=n1) (ds:=p.on.map PE.vS) tT_ok rfl rfl rfl rfl rfl rfl hj) ?_))) |(refine kWL ?_;first |(refine WL.seq ?_) |(refine WL.region (by kernel_rfl) ?_) |(refine WL.drawn (id:=7) [0,1,2,3,4,5,6,7,8,9,10,11,12,13,14,15,16,17,18] [16,18] [[],[0],[],[0,1,2],[0,1,2,3],[],[],[6],[],[6,7,8],[6,7,8,9],[],[6,7,8,9,10,11],[6,7,8,9,10,11,12],[],[],[6,7,8,9,10,11,12,13,14,15],[0,1,2,3,4,5,6,7,8,9,10,11,12,13,14,15,16],[0,1,2,3,4,5,6,7,8,9,10,11,12,13,14,15,16,17]] (by kernel_rfl) (by kernel_rfl) ?_) |(refine WL.block ?_) |(refine WL.skip ?_) |(refine kCond ?_;first |(refine WL.condT' rfl ?_ ?_;(focus (first |(simp <;> omega)))))) |(refine kDr ?_;first |(refine LDr.nil ?_) |(refine LDr.fl rfl rfl (.ev tT_ok rfl) ?_) |(refine kDLoad rfl ?_;first |(refine LDr.fl rfl rfl (AnsL.loadH tT_ok 7 hh rfl rfl rfl rfl) ?_) |(refine LDr.fl rfl rfl (AnsL.loadHE (q:=i*1) tT_ok 4 0 hh rfl rfl hq rfl rfl rfl rfl) ?_) |(refine LDr.fl rfl rfl (AnsL.loadHE (q:=j*10) tT_ok 0 0 hh rfl rfl hq2 rfl rfl rfl rfl) ?_)) |(refine kDIdx rfl ?_;first |(refine LDr.fl rfl rfl (AnsL.idxT (n:=n1) (ds:=p.on.map PE.vS) tT_ok rfl rfl rfl rfl rfl rfl hj) ?_) |(refine LDr.fl rfl rfl (AnsL.idxT (n:=m) (ds:=l.map PE.toV) tT_ok rfl rfl rfl rfl rfl rfl hj2) ?_)) |(refine LDr.eff rfl rfl rfl ?_)) |(refine lthen_n ?_) |(refine lblock_n ?_) |(refine And.intro ?_ ?_) |(exact StsL.nil) |(refine StsL.cons ?_ ?_) |(refine StL.fl rfl rfl (.ev tT_ok rfl)) |(refine StL.fl rfl rfl (AnsL.loadH tT_ok 7 hh rfl rfl rfl rfl)) |(refine StL.fl rfl rfl (AnsL.idxT (n:=n1) (ds:=p.on.map PE.vS) tT_ok rfl rfl rfl rfl rfl rfl hj)) |(refine StL.fl rfl rfl (AnsL.loadHE (q:=i*1) tT_ok 4 0 hh rfl rfl hq rfl rfl rfl rfl))
     all_goals
       refine' CutH.of (()) ?_ hh ?_ ?_
       · repeat' first | exact SubL.nil |(refine SubL.mk rfl ?_ ?_) | rfl |(simp [] <;> fail) |(simp [];omega)
       · try dsimp only
         (repeat' first |(exact Sel.nil) |(exact Sel.refl _) |(refine' Sel.p ?_ ?_;rotate_left 1;(focus (((repeat' first |(exact Pick.here) |(refine' Pick.there ?_));done)))))
       · try dsimp only
         repeat' first | exact trivial | assumption | omega |(refine And.intro ?_ ?_) | rfl |(simp [] <;> fail)
   · skip
     repeat' first |(refine lfin_e ?_) |(refine kOps ?_;first |(refine LOps.nil ?_) |(refine LOps.ev tT_ok rfl ?_) |(refine kLoad ?_;first |(refine LOps.ans (AnsL.loadH tT_ok 4 hh rfl rfl rfl rfl) ?_) |(refine LOps.ans (AnsL.loadHE (q:=i*1) tT_ok 1 0 hh rfl rfl hq rfl rfl rfl rfl) ?_)) |(refine kLen ?_;first |(refine LOps.ans (AnsL.lenTM (n:=m) (zs:=l) (f:=PE.toV) tT_ok rfl rfl rfl rfl) ?_)) |(refine kBin ?_;first |(refine LOps.ans (AnsL.add rfl rfl ?_) ?_;(focus (constructor <;> omega)))) |(refine kIdx ?_;first |(refine LOps.ans (AnsL.idxT (n:=n1) (ds:=p.on.map PE.vS) tT_ok rfl rfl rfl rfl rfl rfl hj) ?_))) |(refine kWL ?_;first |(refine WL.seq ?_) |(refine WL.region (by kernel_rfl) ?_) |(refine WL.exit ?_) |(refine kCond ?_;first |(refine WL.condF' rfl ?_ ?_;(focus (first |(simp <;> omega)))))) |(refine lthen_n ?_) |(refine lthen_e ?_) |(refine lblock_n ?_) |(refine lblock_e ?_)
     all_goals
       refine' CutH.of (()) ?_ hh ?_ ?_
       · repeat' first | exact SubL.nil |(refine SubL.mk rfl ?_ ?_) | rfl |(simp [] <;> fail) |(simp [];omega)
       · try dsimp only
         (repeat' first |(exact Sel.nil) |(exact Sel.refl _) |(refine' Sel.p ?_ ?_;rotate_left 1;(focus (((repeat' first |(exact Pick.here) |(refine' Pick.there ?_));done)))))
       · try dsimp only
         repeat' first | exact trivial | assumption | omega |(refine And.intro ?_ ?_) | rfl |(simp [] <;> fail)
 repeat' first |(refine lfin_e ?_) |(refine kOps ?_;first |(refine LOps.nil ?_) |(refine LOps.ev tT_ok rfl ?_) |(refine kLoad ?_;first |(refine LOps.ans (AnsL.loadH tT_ok 1 hh rfl rfl rfl rfl) ?_)) |(refine kLen ?_;first |(refine LOps.ans (AnsL.lenTM (n:=n1) (zs:=p.on) (f:=PE.vS) tT_ok rfl rfl rfl rfl) ?_))) |(refine kWL ?_;first |(refine WL.seq ?_) |(refine WL.region (by kernel_rfl) ?_) |(refine WL.block ?_) |(refine WL.exit ?_) |(refine kCond ?_;first |(refine WL.condF' rfl ?_ ?_;(focus (first |(simp <;> omega)))))) |(refine lthen_n ?_) |(refine lthen_e ?_) |(refine lblock_e ?_)
 refine WL.loopTurn n2 10 p.wher PE.toV (PE.lf b u) (fun i=>[(1,.int .i64 b),(2,.int .i64 u),(3,.ptr nE 0),(6,.ptr nR 0),(9,.int .i64 (i:Int))])
   (.cell nE [(thw nb (.sl 0 (p.tables.map iV))).1,(thw n1 (.sl 0 (p.on.map PE.vS))).1,(thw n2 (.sl 0 (p.wher.map PE.toV))).1,(thw n3 (.sl 0 (p.order.map PE.sv))).1,(thw n4 (.sl 0 (p.items.map PE.toV))).1,(thw n5 (.sl 0 (p.names.map sV))).1,.bool p.distinct,.int .i64 p.limit] :: .cell nR [.nilsl,.nilsl,.nilsl,.nilsl,.nilsl,.nilsl,.bool false,.int .i64 0] :: .blk n6 (.agg p.rest) :: .blk n5 (.sl 0 (p.names.map sV)) :: .blk n4 (.sl 0 (p.items.map PE.toV)) :: .blk n3 (.sl 0 (p.order.map PE.sv)) :: .blk n1 (.sl 0 ((p.on.map (List.map (PE.lf b u))).map PE.vS)) :: .blk nb (.sl 0 (p.tables.map iV))::H)
   PE.cells_len (fun x _=>hcE x) PE.plain ⟨rfl,rfl,rfl,rfl,rfl,trivial⟩ hh (by (repeat' first |(exact Sel.nil) |(exact Sel.refl _) |(refine' Sel.p ?_ ?_;rotate_left 1;(focus (((repeat' first |(exact Pick.here) |(refine' Pick.there ?_));done)))))) (fun i hi s m m' A Z CA CZ hq hh=>?_) (fun s hh=>?_)
 · have hI:=ih _ (PlanOf.mem_wher (List.getElem_mem hi))
   have hj:i<(p.wher.map PE.toV).length:=by rw [List.length_map];exact hi
   rw [PE.toV_eq] at hh
   rw [PE.toV_eq]
   generalize p.wher[i]=x at hh hI ⊢
   unfold liftA at hI
   repeat' first |(refine kCallN 38 ?_ ;refine LOps.turnH 1 rfl hI rfl ok38 hh rfl rfl ?_ ;intro s hh) |(refine kStore ?_ ;refine LOps.storeHE (q:=i*10) tT_ok 1 0 hh rfl rfl hq rfl rfl rfl rfl rfl ?_ rfl rfl rfl ?_ ;(focus (repeat' first | exact rfl |(refine ones_cons (thw_one _ _ _) ?_) |(refine ones_cons rfl ?_))) ;intro s hh) |(refine kOps ?_;first |(refine LOps.nil ?_) |(refine LOps.ev tT_ok rfl ?_) |(refine kLoad ?_;first |(refine LOps.ans (AnsL.loadH tT_ok 4 hh rfl rfl rfl rfl) ?_)) |(refine kLen ?_;first |(refine LOps.ans (AnsL.lenTM (n:=n2) (zs:=p.wher) (f:=PE.toV) tT_ok rfl rfl rfl rfl) ?_)) |(refine kBin ?_;first |(refine LOps.ans (AnsL.add rfl rfl ?_) ?_;(focus (constructor <;> omega))))) |(refine kWL ?_;first |(refine WL.seq ?_) |(refine WL.region (by kernel_rfl) ?_) |(refine WL.drawn (id:=11) [0,1,2,3,4,5,6,7,8,9,10,11,12] [10,12] [[],[0],[],[],[3],[],[3,4,5],[3,4,5,6],[],[],[3,4,5,6,7,8,9],[0,1,2,3,4,5,6,7,8,9,10],[0,1,2,3,4,5,6,7,8,9,10,11]] (by kernel_rfl) (by kernel_rfl) ?_) |(refine WL.block ?_) |(refine WL.skip ?_) |(refine kCond ?_;first |(refine WL.condT' rfl ?_ ?_;(focus (first |(simp <;> omega)))))) |(refine kDr ?_;first |(refine LDr.nil ?_) |(refine LDr.fl rfl rfl (.ev tT_ok rfl) ?_) |(refine kDLoad rfl ?_;first |(refine LDr.fl rfl rfl (AnsL.loadH tT_ok 4 hh rfl rfl rfl rfl) ?_) |(refine LDr.fl rfl rfl (AnsL.loadHE (q:=i*10) tT_ok 0 0 hh rfl rfl hq rfl rfl rfl rfl) ?_)) |(refine kDIdx rfl ?_;first |(refine LDr.fl rfl rfl (AnsL.idxT (n:=n2) (ds:=p.wher.map PE.toV) tT_ok rfl rfl rfl rfl rfl rfl hj) ?_)) |(refine LDr.eff rfl rfl rfl ?_)) |(refine lthen_n ?_) |(refine lblock_n ?_) |(refine And.intro ?_ ?_) |(exact StsL.nil) |(refine StsL.cons ?_ ?_) |(refine StL.fl rfl rfl (.ev tT_ok rfl)) |(refine StL.fl rfl rfl (AnsL.loadH tT_ok 4 hh rfl rfl rfl rfl))
   all_goals
     refine' CutH.of (()) ?_ hh ?_ ?_
     · repeat' first | exact SubL.nil |(refine SubL.mk rfl ?_ ?_) | rfl |(simp [] <;> fail) |(simp [];omega)
     · try dsimp only
       (repeat' first |(exact Sel.nil) |(exact Sel.refl _) |(refine' Sel.p ?_ ?_;rotate_left 1;(focus (((repeat' first |(exact Pick.here) |(refine' Pick.there ?_));done)))))
     · try dsimp only
       repeat' first | exact trivial | assumption | omega |(refine And.intro ?_ ?_) | rfl |(simp [] <;> fail)
 repeat' first |(refine lfin_e ?_) |(refine kOps ?_;first |(refine LOps.nil ?_) |(refine LOps.ev tT_ok rfl ?_) |(refine kLoad ?_;first |(refine LOps.ans (AnsL.loadH tT_ok 1 hh rfl rfl rfl rfl) ?_)) |(refine kLen ?_;first |(refine LOps.ans (AnsL.lenTM (n:=n2) (zs:=p.wher) (f:=PE.toV) tT_ok rfl rfl rfl rfl) ?_))) |(refine kWL ?_;first |(refine WL.seq ?_) |(refine WL.region (by kernel_rfl) ?_) |(refine WL.block ?_) |(refine WL.exit ?_) |(refine kCond ?_;first |(refine WL.condF' rfl ?_ ?_;(focus (first |(simp <;> omega)))))) |(refine lthen_n ?_) |(refine lthen_e ?_) |(refine lblock_e ?_)
 refine WL.loopTurn n3 11 p.order PE.sv (fun x=>(PE.lf b u x.1,x.2)) (fun i=>[(1,.int .i64 b),(2,.int .i64 u),(3,.ptr nE 0),(6,.ptr nR 0),(10,.int .i64 (i:Int))])
   (.cell nE [(thw nb (.sl 0 (p.tables.map iV))).1,(thw n1 (.sl 0 (p.on.map PE.vS))).1,(thw n2 (.sl 0 (p.wher.map PE.toV))).1,(thw n3 (.sl 0 (p.order.map PE.sv))).1,(thw n4 (.sl 0 (p.items.map PE.toV))).1,(thw n5 (.sl 0 (p.names.map sV))).1,.bool p.distinct,.int .i64 p.limit] :: .cell nR [.nilsl,.nilsl,.nilsl,.nilsl,.nilsl,.nilsl,.bool false,.int .i64 0] :: .blk n6 (.agg p.rest) :: .blk n5 (.sl 0 (p.names.map sV)) :: .blk n4 (.sl 0 (p.items.map PE.toV)) :: .blk n2 (.sl 0 ((p.wher.map (PE.lf b u)).map PE.toV)) :: .blk n1 (.sl 0 ((p.on.map (List.map (PE.lf b u))).map PE.vS)) :: .blk nb (.sl 0 (p.tables.map iV))::H)
   (fun _=>rfl) (fun x _=>hcS x) PE.plains ⟨rfl,rfl,rfl,rfl,rfl,trivial⟩ hh (by (repeat' first |(exact Sel.nil) |(exact Sel.refl _) |(refine' Sel.p ?_ ?_;rotate_left 1;(focus (((repeat' first |(exact Pick.here) |(refine' Pick.there ?_));done)))))) (fun i hi s m m' A Z CA CZ hq hh=>?_) (fun s hh=>?_)
 · have hI:=ih _ (PlanOf.mem_order (List.getElem_mem hi))
   have hj:i<(p.order.map PE.sv).length:=by rw [List.length_map];exact hi
   generalize p.order[i]=x at hh hI ⊢
   unfold liftA at hI
   replace hh:=hh.unsv1
   repeat' first |(refine kCallN 38 ?_ ;refine LOps.turnH 1 rfl hI rfl ok38 hh rfl rfl ?_ ;intro s hh ;replace hh:=hh.sv x.2) |(refine kStore ?_ ;refine LOps.storeHE (q:=i*11) tT_ok 1 0 hh rfl rfl hq rfl rfl rfl rfl rfl ?_ rfl rfl rfl ?_ ;(focus (repeat' first | exact rfl |(refine ones_cons (thw_one _ _ _) ?_) |(refine ones_cons rfl ?_))) ;intro s hh) |(refine kOps ?_;first |(refine LOps.nil ?_) |(refine LOps.ev tT_ok rfl ?_) |(refine kLoad ?_;first |(refine LOps.ans (AnsL.loadH tT_ok 4 hh rfl rfl rfl rfl) ?_)) |(refine kLen ?_;first |(refine LOps.ans (AnsL.lenTM (n:=n3) (zs:=p.order) (f:=PE.sv) tT_ok rfl rfl rfl rfl) ?_)) |(refine kBin ?_;first |(refine LOps.ans (AnsL.add rfl rfl ?_) ?_;(focus (constructor <;> omega))))) |(refine kWL ?_;first |(refine WL.seq ?_) |(refine WL.region (by kernel_rfl) ?_) |(refine WL.drawn (id:=15) [0,1,2,3,4,5,6,7,8,9,10,11,12,13,14] [11,14] [[],[0],[],[],[3],[],[3,4,5],[3,4,5,6],[3,4,5,6,7],[],[],[3,4,5,6,7,8,9,10],[0,1,2,3,4,5,6,7,8,9,10,11],[0,1,2,3,4,5,6,7,8,9,10,11,12],[0,1,2,3,4,5,6,7,8,9,10,11,12,13]] (by kernel_rfl) (by kernel_rfl) ?_) |(refine WL.block ?_) |(refine WL.skip ?_) |(refine kCond ?_;first |(refine WL.condT' rfl ?_ ?_;(focus (first |(simp <;> omega)))))) |(refine kDr ?_;first |(refine LDr.nil ?_) |(refine LDr.fl rfl rfl (.ev tT_ok rfl) ?_) |(refine kDLoad rfl ?_;first |(refine LDr.fl rfl rfl (AnsL.loadH tT_ok 4 hh rfl rfl rfl rfl) ?_) |(refine LDr.fl rfl rfl (AnsL.loadHE (q:=i*11) tT_ok 0 0 hh rfl rfl hq rfl rfl rfl rfl) ?_)) |(refine kDIdx rfl ?_;first |(refine LDr.fl rfl rfl (AnsL.idxT (n:=n3) (ds:=p.order.map PE.sv) tT_ok rfl rfl rfl rfl rfl rfl hj) ?_)) |(refine LDr.eff rfl rfl rfl ?_)) |(refine lthen_n ?_) |(refine lblock_n ?_) |(refine And.intro ?_ ?_) |(exact StsL.nil) |(refine StsL.cons ?_ ?_) |(refine StL.fl rfl rfl (.ev tT_ok rfl)) |(refine StL.fl rfl rfl (AnsL.loadH tT_ok 4 hh rfl rfl rfl rfl))
   all_goals
     refine' CutH.of (()) ?_ hh ?_ ?_
     · repeat' first | exact SubL.nil |(refine SubL.mk rfl ?_ ?_) | rfl |(simp [] <;> fail) |(simp [];omega)
     · try dsimp only
       (repeat' first |(exact Sel.nil) |(exact Sel.refl _) |(refine' Sel.p ?_ ?_;rotate_left 1;(focus (((repeat' first |(exact Pick.here) |(refine' Pick.there ?_));done)))))
     · try dsimp only
       repeat' first | exact trivial | assumption | omega |(refine And.intro ?_ ?_) | rfl |(simp [] <;> fail)
 repeat' first |(refine lfin_e ?_) |(refine kOps ?_;first |(refine LOps.nil ?_) |(refine LOps.ev tT_ok rfl ?_) |(refine kLoad ?_;first |(refine LOps.ans (AnsL.loadH tT_ok 1 hh rfl rfl rfl rfl) ?_)) |(refine kLen ?_;first |(refine LOps.ans (AnsL.lenTM (n:=n3) (zs:=p.order) (f:=PE.sv) tT_ok rfl rfl rfl rfl) ?_))) |(refine kWL ?_;first |(refine WL.seq ?_) |(refine WL.region (by kernel_rfl) ?_) |(refine WL.block ?_) |(refine WL.exit ?_) |(refine kCond ?_;first |(refine WL.condF' rfl ?_ ?_;(focus (first |(simp <;> omega)))))) |(refine lthen_n ?_) |(refine lthen_e ?_) |(refine lblock_e ?_)
 refine WL.loopTurn n4 10 p.items PE.toV (PE.lf b u) (fun i=>[(1,.int .i64 b),(2,.int .i64 u),(3,.ptr nE 0),(6,.ptr nR 0),(11,.int .i64 (i:Int))])
   (.cell nE [(thw nb (.sl 0 (p.tables.map iV))).1,(thw n1 (.sl 0 (p.on.map PE.vS))).1,(thw n2 (.sl 0 (p.wher.map PE.toV))).1,(thw n3 (.sl 0 (p.order.map PE.sv))).1,(thw n4 (.sl 0 (p.items.map PE.toV))).1,(thw n5 (.sl 0 (p.names.map sV))).1,.bool p.distinct,.int .i64 p.limit] :: .cell nR [.nilsl,.nilsl,.nilsl,.nilsl,.nilsl,.nilsl,.bool false,.int .i64 0] :: .blk n6 (.agg p.rest) :: .blk n5 (.sl 0 (p.names.map sV)) :: .blk n3 (.sl 0 ((p.order.map (fun x=>(PE.lf b u x.1,x.2))).map PE.sv)) :: .blk n2 (.sl 0 ((p.wher.map (PE.lf b u)).map PE.toV)) :: .blk n1 (.sl 0 ((p.on.map (List.map (PE.lf b u))).map PE.vS)) :: .blk nb (.sl 0 (p.tables.map iV))::H)
   PE.cells_len (fun x _=>hcE x) PE.plain ⟨rfl,rfl,rfl,rfl,rfl,trivial⟩ hh (by (repeat' first |(exact Sel.nil) |(exact Sel.refl _) |(refine' Sel.p ?_ ?_;rotate_left 1;(focus (((repeat' first |(exact Pick.here) |(refine' Pick.there ?_));done)))))) (fun i hi s m m' A Z CA CZ hq hh=>?_) (fun s hh=>?_)
 · have hI:=ih _ (PlanOf.mem_items (List.getElem_mem hi))
   have hj:i<(p.items.map PE.toV).length:=by rw [List.length_map];exact hi
   rw [PE.toV_eq] at hh
   rw [PE.toV_eq]
   generalize p.items[i]=x at hh hI ⊢
   unfold liftA at hI
   repeat' first |(refine kCallN 38 ?_ ;refine LOps.turnH 1 rfl hI rfl ok38 hh rfl rfl ?_ ;intro s hh) |(refine kStore ?_ ;refine LOps.storeHE (q:=i*10) tT_ok 1 0 hh rfl rfl hq rfl rfl rfl rfl rfl ?_ rfl rfl rfl ?_ ;(focus (repeat' first | exact rfl |(refine ones_cons (thw_one _ _ _) ?_) |(refine ones_cons rfl ?_))) ;intro s hh) |(refine kOps ?_;first |(refine LOps.nil ?_) |(refine LOps.ev tT_ok rfl ?_) |(refine kLoad ?_;first |(refine LOps.ans (AnsL.loadH tT_ok 4 hh rfl rfl rfl rfl) ?_)) |(refine kLen ?_;first |(refine LOps.ans (AnsL.lenTM (n:=n4) (zs:=p.items) (f:=PE.toV) tT_ok rfl rfl rfl rfl) ?_)) |(refine kBin ?_;first |(refine LOps.ans (AnsL.add rfl rfl ?_) ?_;(focus (constructor <;> omega))))) |(refine kWL ?_;first |(refine WL.seq ?_) |(refine WL.region (by kernel_rfl) ?_) |(refine WL.drawn (id:=19) [0,1,2,3,4,5,6,7,8,9,10,11,12] [10,12] [[],[0],[],[],[3],[],[3,4,5],[3,4,5,6],[],[],[3,4,5,6,7,8,9],[0,1,2,3,4,5,6,7,8,9,10],[0,1,2,3,4,5,6,7,8,9,10,11]] (by kernel_rfl) (by kernel_rfl) ?_) |(refine WL.block ?_) |(refine WL.skip ?_) |(refine kCond ?_;first |(refine WL.condT' rfl ?_ ?_;(focus (first |(simp <;> omega)))))) |(refine kDr ?_;first |(refine LDr.nil ?_) |(refine LDr.fl rfl rfl (.ev tT_ok rfl) ?_) |(refine kDLoad rfl ?_;first |(refine LDr.fl rfl rfl (AnsL.loadH tT_ok 4 hh rfl rfl rfl rfl) ?_) |(refine LDr.fl rfl rfl (AnsL.loadHE (q:=i*10) tT_ok 0 0 hh rfl rfl hq rfl rfl rfl rfl) ?_)) |(refine kDIdx rfl ?_;first |(refine LDr.fl rfl rfl (AnsL.idxT (n:=n4) (ds:=p.items.map PE.toV) tT_ok rfl rfl rfl rfl rfl rfl hj) ?_)) |(refine LDr.eff rfl rfl rfl ?_)) |(refine lthen_n ?_) |(refine lblock_n ?_) |(refine And.intro ?_ ?_) |(exact StsL.nil) |(refine StsL.cons ?_ ?_) |(refine StL.fl rfl rfl (.ev tT_ok rfl)) |(refine StL.fl rfl rfl (AnsL.loadH tT_ok 4 hh rfl rfl rfl rfl))
   all_goals
     refine' CutH.of (()) ?_ hh ?_ ?_
     · repeat' first | exact SubL.nil |(refine SubL.mk rfl ?_ ?_) | rfl |(simp [] <;> fail) |(simp [];omega)
     · try dsimp only
       (repeat' first |(exact Sel.nil) |(exact Sel.refl _) |(refine' Sel.p ?_ ?_;rotate_left 1;(focus (((repeat' first |(exact Pick.here) |(refine' Pick.there ?_));done)))))
     · try dsimp only
       repeat' first | exact trivial | assumption | omega |(refine And.intro ?_ ?_) | rfl |(simp [] <;> fail)
 repeat' first |(refine kStore ?_ ;first |(refine LOps.storeH tT_ok 2 hh rfl rfl rfl rfl rfl ?_ rfl rfl rfl ?_ ;(focus (repeat' first |(exact rfl) |(refine ones_cons (thw_one _ _ _) ?_))) ;intro s hh)) |(refine lfin_e ?_) |(refine kOps ?_;first |(refine LOps.nil ?_) |(refine LOps.ev tT_ok rfl ?_) |(refine kLoad ?_;first |(refine LOps.ans (AnsL.loadH tT_ok 1 hh rfl rfl rfl rfl) ?_)) |(refine kLen ?_;first |(refine LOps.ans (AnsL.lenTM (n:=n4) (zs:=p.items) (f:=PE.toV) tT_ok rfl rfl rfl rfl) ?_))) |(refine kWL ?_;first |(refine WL.seq ?_) |(refine WL.region (by kernel_rfl) ?_) |(refine WL.exit ?_) |(refine WL.ret ?_) |(refine kCond ?_;first |(refine WL.condF' rfl ?_ ?_;(focus (first |(simp <;> omega)))))) |(refine lthen_n ?_) |(refine lthen_e ?_) |(refine lblock_e ?_) |(refine' LPost.r1 (r := .cell 6 44) (.inl rfl) ?_ ?_;rotate_left 1;(focus (first | exact Res1.cellH 0 tT_ok hh rfl rfl rfl rfl | exact Res1.cellH 1 tT_ok hh rfl rfl rfl rfl | exact Res1.cellH 2 tT_ok hh rfl rfl rfl rfl | exact Res1.cellH 3 tT_ok hh rfl rfl rfl rfl | exact Res1.cellH 4 tT_ok hh rfl rfl rfl rfl | exact Res1.cellH 5 tT_ok hh rfl rfl rfl rfl | exact Res1.cellH 6 tT_ok hh rfl rfl rfl rfl | exact Res1.cellH 7 tT_ok hh rfl rfl rfl rfl | exact Res1.cellHW 0 tT_ok hh rfl rfl rfl rfl | exact Res1.cellHW 1 tT_ok hh rfl rfl rfl rfl | exact Res1.cellHW 2 tT_ok hh rfl rfl rfl rfl | exact Res1.cellHW 3 tT_ok hh rfl rfl rfl rfl | exact Res1.cellHW 4 tT_ok hh rfl rfl rfl rfl | exact Res1.cellHW 5 tT_ok hh rfl rfl rfl rfl | exact Res1.cellHW 6 tT_ok hh rfl rfl rfl rfl | exact Res1.cellHW 7 tT_ok hh rfl rfl rfl rfl)))
 exact liftPlan_fin (fun k=>PE.lf_cv b k u) e1 e2 e3 e4 e5 e6 (hh.sel (.cons 3 rfl rfl (.cons 3 rfl rfl (.cons 0 rfl rfl (.cons 2 rfl rfl (.cons 2 rfl rfl (.cons 2 rfl rfl (.cons 2 rfl rfl (.drop (.drop (.refl _)))))))))))  rfl
theorem specLift_t (b:Int) (e:PE):∀ u,LfOk b u e→TurnF Try.prog 38 (liftA b u) e.v (e.lf b u).v:=by
 induction e using PE.ind with
 | h e ih1 ih2 =>
   intro u ok
   obtain ⟨_,hk,hs⟩:=PE.ups_spec ok.up
   have hw:=ok.w
   have hu:=ok.u1
   have hu0:=ok.u0
   refine specLift_r e b u ok (fun k hk'=>?_) fun p hp=>?_
   · have:=PE.wgt_kid hk'
     exact ih1 k hk' u ⟨ok.b0,ok.b1,ok.u0,by omega,by omega,hk k hk'⟩
   · have a1:=PE.wgt_sub hp
     refine specLiftPlan_r p b (u+1) (by omega) fun k hk'=>?_
     have a2:=PL.wgt_part1 hk'
     exact ih2 p hp k hk' (u+1) ⟨ok.b0,ok.b1,by omega,by omega,by omega,hs p hp k hk'⟩
set_option maxHeartbeats 2000000 in
theorem specLifted_c (e:PE) (b:Int) (hw:wgt e.v≤1048576) (s:S):VCalls Try.prog 12 [e.v,.int .i64 b] s (fun v t=>Own2 (liftTop e b).v v t):=by
 have hh:Hold s s.next [] := .start _ _
 have hU:=specUps_c e hw
 have hC:=specCopy_c e hw
 unfold UpsC at hU
 have hI:∀ t,VCalls Try.prog 36 [.int .i64 b,.int .i64 0,.int .i64 1000] t (fun v t'=>v = .bool (decide (0≤b)&&decide (b≤1000))∧t'=t):=fun t=>specl1In_v _ _ _ t
 unfold liftTop liftB
 cases hb:(decide (0≤b)&&decide (b≤1000))
 all_goals rw [hb] at hI
 · simp only [Bool.false_and,Bool.false_eq_true,if_false]
   refine LCalls.body Try.func12 rfl (by kernel_rfl) ?_
   repeat' first |(refine kBox ?_ ;first |(refine LOps.boxH hh rfl rfl ?_ ;intro s n hh)) |(refine kAlloc ?_ ;refine LOps.allocH tT_ok hh rfl rfl ?_ ;intro s n hh) |(refine kStore ?_ ;first |(refine LOps.storeHW tT_ok 0 hh rfl rfl rfl rfl rfl rfl rfl ?_ ;intro s hh) |(refine LOps.storeHW tT_ok 2 hh rfl rfl rfl rfl rfl rfl rfl ?_ ;intro s hh)) |(refine kCallN 35 ?_ ;refine LOps.lendC rfl rfl rfl ok35 hh (.cons (.pl (PE.plainv e)) .nil) (fun t=>hC t) (PE.plainv _) ?_ ;intro s n hh) |(refine kOps ?_;first |(refine LOps.nil ?_) |(refine kG ?_;first |(refine LOps.gF rfl rfl rfl ?_)) |(refine LOps.ev tT_ok rfl ?_) |(refine kLoad ?_;first |(refine LOps.ans (AnsL.loadHW tT_ok 0 hh rfl rfl rfl rfl) ?_) |(refine LOps.ans (AnsL.loadH tT_ok 1 hh rfl rfl rfl rfl) ?_)) |(refine kCallN 36 ?_;first |(refine LOps.ans (AnsL.callP rfl rfl rfl (ok36) (hI _)) ?_))) |(refine kWL ?_;first |(refine WL.seq ?_) |(refine WL.region (by kernel_rfl) ?_) |(refine WL.ret ?_) |(refine kCond ?_;first |(refine WL.condT rfl ?_))) |(refine lthen_n ?_) |(refine lthen_r ?_) |(refine' LPost.r1 (r := .cell 4 29) (.inl rfl) ?_ ?_;rotate_left 1;(focus (first | exact Res1.cellH 0 tT_ok hh rfl rfl rfl rfl | exact Res1.cellH 1 tT_ok hh rfl rfl rfl rfl | exact Res1.cellH 2 tT_ok hh rfl rfl rfl rfl | exact Res1.cellH 3 tT_ok hh rfl rfl rfl rfl | exact Res1.cellH 4 tT_ok hh rfl rfl rfl rfl | exact Res1.cellH 5 tT_ok hh rfl rfl rfl rfl | exact Res1.cellH 6 tT_ok hh rfl rfl rfl rfl | exact Res1.cellH 7 tT_ok hh rfl rfl rfl rfl | exact Res1.cellHW 0 tT_ok hh rfl rfl rfl rfl | exact Res1.cellHW 1 tT_ok hh rfl rfl rfl rfl | exact Res1.cellHW 2 tT_ok hh rfl rfl rfl rfl | exact Res1.cellHW 3 tT_ok hh rfl rfl rfl rfl | exact Res1.cellHW 4 tT_ok hh rfl rfl rfl rfl | exact Res1.cellHW 5 tT_ok hh rfl rfl rfl rfl | exact Res1.cellHW 6 tT_ok hh rfl rfl rfl rfl | exact Res1.cellHW 7 tT_ok hh rfl rfl rfl rfl)))
   exact Own2.ofH hh (by ((repeat' first |(exact ConsL.nil) |(exact Cons.zsl) |(exact Cons.nilsl) |(refine' Cons.bp ?_;((repeat' first |(exact Pick.here) |(refine' Pick.there ?_));done)) |(refine' Cons.ap ?_;((repeat' first |(exact Pick.here) |(refine' Pick.there ?_));done)) |(exact Cons.blk 0 rfl rfl rfl) |(exact Cons.blk 1 rfl rfl rfl) |(exact Cons.blk 2 rfl rfl rfl) |(exact Cons.blk 3 rfl rfl rfl) |(exact Cons.blk 4 rfl rfl rfl) |(exact Cons.blk 5 rfl rfl rfl) |(exact Cons.pl rfl rfl) |(exact Cons.pl (by assumption) (by assumption)) |(refine' ConsL.cons ?_ ?_) |(exact ConsL.pls rfl rfl) |(exact ConsL.pls (by assumption) (by assumption)) |(refine' Cons.agg ?_));done))
 simp only [Bool.and_eq_true,decide_eq_true_eq] at hb
 simp only [Bool.true_and]
 cases hu:e.ups
 all_goals rw [hu] at hU
 · simp only [Bool.false_eq_true,if_false]
   refine LCalls.body Try.func12 rfl (by kernel_rfl) ?_
   repeat' first |(refine kBox ?_ ;first |(refine LOps.boxH hh rfl rfl ?_ ;intro s n hh)) |(refine kAlloc ?_ ;refine LOps.allocH tT_ok hh rfl rfl ?_ ;intro s n hh) |(refine kStore ?_ ;first |(refine LOps.storeHW tT_ok 0 hh rfl rfl rfl rfl rfl rfl rfl ?_ ;intro s hh) |(refine LOps.storeHW tT_ok 2 hh rfl rfl rfl rfl rfl rfl rfl ?_ ;intro s hh)) |(refine kCallN 35 ?_ ;refine LOps.lendC rfl rfl rfl ok35 hh (.cons (.pl (PE.plainv e)) .nil) (fun t=>hC t) (PE.plainv _) ?_ ;intro s n hh) |(refine kOps ?_;first |(refine LOps.nil ?_) |(refine kG ?_;first |(refine LOps.gT rfl rfl rfl ?_)) |(refine LOps.ev tT_ok rfl ?_) |(refine kLoad ?_;first |(refine LOps.ans (AnsL.loadHW tT_ok 0 hh rfl rfl rfl rfl) ?_) |(refine LOps.ans (AnsL.loadH tT_ok 1 hh rfl rfl rfl rfl) ?_) |(refine LOps.ans (AnsL.loadH tT_ok 3 hh rfl rfl rfl rfl) ?_)) |(refine kCallN 36 ?_;first |(refine LOps.ans (AnsL.callP rfl rfl rfl (ok36) (hI _)) ?_)) |(refine kCallN 37 ?_;first |(refine LOps.ans (AnsL.callP rfl rfl rfl (ok37) (hU _)) ?_))) |(refine kWL ?_;first |(refine WL.seq ?_) |(refine WL.region (by kernel_rfl) ?_) |(refine WL.ret ?_) |(refine kCond ?_;first |(refine WL.condT rfl ?_))) |(refine lthen_n ?_) |(refine lthen_r ?_) |(refine' LPost.r1 (r := .cell 4 29) (.inl rfl) ?_ ?_;rotate_left 1;(focus (first | exact Res1.cellH 0 tT_ok hh rfl rfl rfl rfl | exact Res1.cellH 1 tT_ok hh rfl rfl rfl rfl | exact Res1.cellH 2 tT_ok hh rfl rfl rfl rfl | exact Res1.cellH 3 tT_ok hh rfl rfl rfl rfl | exact Res1.cellH 4 tT_ok hh rfl rfl rfl rfl | exact Res1.cellH 5 tT_ok hh rfl rfl rfl rfl | exact Res1.cellH 6 tT_ok hh rfl rfl rfl rfl | exact Res1.cellH 7 tT_ok hh rfl rfl rfl rfl | exact Res1.cellHW 0 tT_ok hh rfl rfl rfl rfl | exact Res1.cellHW 1 tT_ok hh rfl rfl rfl rfl | exact Res1.cellHW 2 tT_ok hh rfl rfl rfl rfl | exact Res1.cellHW 3 tT_ok hh rfl rfl rfl rfl | exact Res1.cellHW 4 tT_ok hh rfl rfl rfl rfl | exact Res1.cellHW 5 tT_ok hh rfl rfl rfl rfl | exact Res1.cellHW 6 tT_ok hh rfl rfl rfl rfl | exact Res1.cellHW 7 tT_ok hh rfl rfl rfl rfl)))
   exact Own2.ofH hh (by ((repeat' first |(exact ConsL.nil) |(exact Cons.zsl) |(exact Cons.nilsl) |(refine' Cons.bp ?_;((repeat' first |(exact Pick.here) |(refine' Pick.there ?_));done)) |(refine' Cons.ap ?_;((repeat' first |(exact Pick.here) |(refine' Pick.there ?_));done)) |(exact Cons.blk 0 rfl rfl rfl) |(exact Cons.blk 1 rfl rfl rfl) |(exact Cons.blk 2 rfl rfl rfl) |(exact Cons.blk 3 rfl rfl rfl) |(exact Cons.blk 4 rfl rfl rfl) |(exact Cons.blk 5 rfl rfl rfl) |(exact Cons.pl rfl rfl) |(exact Cons.pl (by assumption) (by assumption)) |(refine' ConsL.cons ?_ ?_) |(exact ConsL.pls rfl rfl) |(exact ConsL.pls (by assumption) (by assumption)) |(refine' Cons.agg ?_));done))
 · simp only [if_true]
   have hL:=specLift_t b e 0 ⟨hb.1,hb.2,by omega,by omega,hw,hu⟩
   unfold liftA at hL
   refine LCalls.body Try.func12 rfl (by kernel_rfl) ?_
   repeat' first |(refine kBox ?_ ;first |(refine LOps.boxH hh rfl rfl ?_ ;intro s n hh)) |(refine kAlloc ?_ ;refine LOps.allocH tT_ok hh rfl rfl ?_ ;intro s n hh) |(refine kStore ?_ ;first |(refine LOps.storeHW tT_ok 0 hh rfl rfl rfl rfl rfl rfl rfl ?_ ;intro s hh) |(refine LOps.storeHW tT_ok 2 hh rfl rfl rfl rfl rfl rfl rfl ?_ ;intro s hh)) |(refine kCallN 35 ?_ ;refine LOps.lendC rfl rfl rfl ok35 hh (.cons (.pl (PE.plainv e)) .nil) (fun t=>hC t) (PE.plainv _) ?_ ;intro s n hh) |(refine kCallN 38 ?_ ;first |(refine LOps.turnH 1 rfl hL rfl ok38 hh rfl rfl ?_ ;intro s hh)) |(refine kOps ?_;first |(refine LOps.nil ?_) |(refine kG ?_;first |(refine LOps.gT rfl rfl rfl ?_)) |(refine LOps.ev tT_ok rfl ?_) |(refine kLoad ?_;first |(refine LOps.ans (AnsL.loadHW tT_ok 0 hh rfl rfl rfl rfl) ?_) |(refine LOps.ans (AnsL.loadH tT_ok 1 hh rfl rfl rfl rfl) ?_) |(refine LOps.ans (AnsL.loadH tT_ok 3 hh rfl rfl rfl rfl) ?_)) |(refine kCallN 36 ?_;first |(refine LOps.ans (AnsL.callP rfl rfl rfl (ok36) (hI _)) ?_)) |(refine kCallN 37 ?_;first |(refine LOps.ans (AnsL.callP rfl rfl rfl (ok37) (hU _)) ?_))) |(refine kWL ?_;first |(refine WL.seq ?_) |(refine WL.region (by kernel_rfl) ?_) |(refine WL.skip ?_) |(refine WL.ret ?_) |(refine kCond ?_;first |(refine WL.condF rfl ?_))) |(refine lthen_n ?_) |(refine' LPost.r1 (r := .cell 4 29) (.inl rfl) ?_ ?_;rotate_left 1;(focus (first | exact Res1.cellH 0 tT_ok hh rfl rfl rfl rfl | exact Res1.cellH 1 tT_ok hh rfl rfl rfl rfl | exact Res1.cellH 2 tT_ok hh rfl rfl rfl rfl | exact Res1.cellH 3 tT_ok hh rfl rfl rfl rfl | exact Res1.cellH 4 tT_ok hh rfl rfl rfl rfl | exact Res1.cellH 5 tT_ok hh rfl rfl rfl rfl | exact Res1.cellH 6 tT_ok hh rfl rfl rfl rfl | exact Res1.cellH 7 tT_ok hh rfl rfl rfl rfl | exact Res1.cellHW 0 tT_ok hh rfl rfl rfl rfl | exact Res1.cellHW 1 tT_ok hh rfl rfl rfl rfl | exact Res1.cellHW 2 tT_ok hh rfl rfl rfl rfl | exact Res1.cellHW 3 tT_ok hh rfl rfl rfl rfl | exact Res1.cellHW 4 tT_ok hh rfl rfl rfl rfl | exact Res1.cellHW 5 tT_ok hh rfl rfl rfl rfl | exact Res1.cellHW 6 tT_ok hh rfl rfl rfl rfl | exact Res1.cellHW 7 tT_ok hh rfl rfl rfl rfl)))
   exact Own2.ofH hh (by ((repeat' first |(exact ConsL.nil) |(exact Cons.zsl) |(exact Cons.nilsl) |(refine' Cons.bp ?_;((repeat' first |(exact Pick.here) |(refine' Pick.there ?_));done)) |(refine' Cons.ap ?_;((repeat' first |(exact Pick.here) |(refine' Pick.there ?_));done)) |(exact Cons.blk 0 rfl rfl rfl) |(exact Cons.blk 1 rfl rfl rfl) |(exact Cons.blk 2 rfl rfl rfl) |(exact Cons.blk 3 rfl rfl rfl) |(exact Cons.blk 4 rfl rfl rfl) |(exact Cons.blk 5 rfl rfl rfl) |(exact Cons.pl rfl rfl) |(exact Cons.pl (by assumption) (by assumption)) |(refine' ConsL.cons ?_ ?_) |(exact ConsL.pls rfl rfl) |(exact ConsL.pls (by assumption) (by assumption)) |(refine' Cons.agg ?_));done))
end Go.Proofs.Ytolhegocbkckdaa
