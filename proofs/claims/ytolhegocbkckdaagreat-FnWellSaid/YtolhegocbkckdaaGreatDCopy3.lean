/-
 Copies of plans' trees by the reference. Own work; no condition.
-/
import Derived.Test.YtolhegocbkckdaaGreatMg49
namespace Go.Proofs.YtolhegocbkckdaaGreat
open Go
set_option linter.unusedSimpArgs false
set_option linter.unusedVariables false
theorem JD {α : Type} {f : α → V} (h:∀ x,cv (f x)=0) (l:List α):bV (l.map f)=0:=by
 induction l with
 | nil=>rfl
 | cons x l ih=>simp only [List.map_cons,bV,h x,ih]
theorem yJ (xs:List PE) (hl:xs.length≤1048576) (ih:∀ x∈xs,Di Tryz.prog 66 x.v):Di Tryz.prog 33 (.sl 0 (xs.map PE.zF)):=by
 intro s
 have hh:Hold s s.next [] := .start _ _
 refine zi.body Tryz.func33 rfl (by kernel_rfl) ?_
 repeat' first|(refine zf ?_;first|(refine zq.nil ?_)|(refine zq.ev zx rfl ?_)|(refine kZ ?_;first|(refine zq.uT zx rfl rfl rfl rfl rfl ?_)))|(refine zH ?_;first|(refine WL.seq ?_)|(refine WL.region (by kernel_rfl) ?_)|(refine WL.block ?_))|(refine zw ?_)
 refine WL.CB (t:=3) 10 rfl rfl hh (fun s id hh=>?_)
 refine WL.yw (fun y:Nat × List V × List V=>xs.length - y.1) (fun y=>[(0,.sl 0 (xs.map PE.zF)),(3,.sl id y.2.1),(4,.int .i64 (y.1:Int))]) (fun y=>[.acc id 10 y.2.1 y.2.2])
   (fun y=>y.1≤xs.length∧y.2.2=(xs.take y.1).map PE.zF) (0,[],[]) ⟨by simp,by simp⟩ ⟨rfl,rfl,rfl,trivial⟩ hh (by (repeat' first|(exact zK.nil)|(exact zK.refl _)|(refine' zK.p ?_ ?_;rotate_left 1;(focus (((repeat' first|(exact Pick.here)|(refine' Pick.there ?_));done)))))) (fun y s hI hh=>?_)
 obtain ⟨i,us,ds⟩:=y
 obtain ⟨hi,hd⟩:=hI
 dsimp only at hi hd hh ⊢
 have QD:=hh.XQ 0 rfl
 have hdl:ds.length=i:=by rw [hd];simp;omega
 rcases Nat.lt_or_ge i xs.length with hlt | hge
 · have hga : (xs.map PE.zF)[i]? = some (PE.v xs[i]) := by rw [List.getElem?_map, List.getElem?_eq_getElem hlt]; simp only [Option.map_some, PE.qK]
   have hst:(xs.take (i+1)).map PE.zF=ds++[(xs[i]).v]:=by rw [hd,List.take_succ_eq_append_getElem hlt,List.map_append,List.map_cons,List.map_nil,PE.qK]
   have hE:=ih xs[i] (List.getElem_mem hlt)
   generalize xs[i]=x at hga hst hE
   repeat' first|(refine kZ ?_;refine' zq.XK zx rfl rfl rfl rfl rfl rfl rfl rfl hh ?_ ?_ ?_;rotate_left 2 ;(focus ((repeat' first|(exact xE.nil)|(refine' Cons.bp ?_;((repeat' first|(exact Pick.here));done))|(refine' xE.cons ?_ ?_));done)) ;(focus ((repeat' first|(exact jM.of rfl));done)) ;intro s n hh)|(refine ji ?_;first|(refine' zq.appH zx 1 rfl rfl rfl rfl rfl rfl rfl rfl rfl rfl hh ?_ ?_ (xU.of ?_ rfl) ?_;rotate_left 3 ;(focus (first|(refine' wL.ap ?_;((repeat' first|(exact Pick.here));done)))) ;(focus ((repeat' first|(exact zS.nil)|(refine zS.ct rfl rfl ?_));done)) ;(focus (first | omega |(simp ;omega))) ;intro s hh))|(refine zy 66 ?_;refine zq.nC rfl rfl rfl He hh (.cons (.pl (PE.eu x)) .nil) (fun t=>hE t) (PE.eu _) ?_;intro s n hh)|(refine zf ?_;first|(refine zq.nil ?_)|(refine zq.ev zx rfl ?_)|(refine qx ?_;first|(refine zq.ans (zk.z8 zx rfl rfl rfl) ?_))|(refine xk ?_;first|(refine zq.ans (zk.add rfl rfl ?_) ?_;(focus (constructor <;> omega))))|(refine xw ?_;first|(refine zq.ans (zk.idx zx rfl rfl rfl rfl rfl hga rfl rfl) ?_)))|(refine zH ?_;first|(refine WL.seq ?_)|(refine WL.region (by kernel_rfl) ?_)|(refine WL.block ?_)|(refine WL.skip ?_)|(refine zu ?_;first|(refine WL.zJ rfl ?_ ?_;(focus (first|(simp <;> omega))))))|(refine zw ?_)|(refine zQ ?_)
   all_goals
     refine' kW.of ((i+1,_,ds++[x.v])) ?_ hh ?_ ?_ ?_
     rotate_left 1
     · repeat' first | exact qz.nil |(refine qz.mk rfl ?_ ?_) | rfl |(simp [hst] <;> fail)|(simp [hst];omega)
     · first|((repeat' first|(exact zK.nil)|(exact zK.refl _)|(refine' zK.p ?_ ?_;rotate_left 1;(focus (((repeat' first|(exact Pick.here)|(refine' Pick.there ?_));done)))));done)|(dsimp only;simp only [List.map_append,List.map_cons,List.map_nil];(repeat' first|(exact zK.nil)|(exact zK.refl _)|(refine' zK.p ?_ ?_;rotate_left 1;(focus (((repeat' first|(exact Pick.here)|(refine' Pick.there ?_));done)))));done)|(dsimp only;simp only [List.map_append,List.map_cons,List.map_nil,hst];(repeat' first|(exact zK.nil)|(exact zK.refl _)|(refine' zK.p ?_ ?_;rotate_left 1;(focus (((repeat' first|(exact Pick.here)|(refine' Pick.there ?_));done)))));done)
     · dsimp only;repeat' first | omega | assumption |(refine And.intro ?_ ?_) | rfl |(simp [hst] <;> fail)|(simp [hst];omega)|(simp_all [hst] <;> fail)|(simp_all [hst];omega)
     · dsimp only;first | omega |(simp;omega)|(simp_all;omega)
 · skip
   repeat' first|(refine zf ?_;first|(refine zq.nil ?_)|(refine zq.ev zx rfl ?_)|(refine qx ?_;first|(refine zq.ans (zk.z8 zx rfl rfl rfl) ?_)))|(refine zH ?_;first|(refine WL.seq ?_)|(refine WL.region (by kernel_rfl) ?_)|(refine WL.exit ?_)|(refine WL.ret ?_)|(refine zu ?_;first|(refine WL.zY rfl ?_ ?_;(focus (first|(simp <;> omega))))))|(refine zw ?_)|(refine zC ?_)|(refine zV ?_)|(refine ko ?_)|(refine zh.r1 (r := .tmp 2) (.inl rfl) (zn.tmp rfl) ?_)
   rw [List.take_of_length_le hge] at hd
   subst hd
   exact Own2.Ej hh (by ((repeat' first|(exact xE.nil)|(exact Cons.jo)|(exact Cons.zl)|(refine' Cons.bp ?_;((repeat' first|(exact Pick.here)|(refine' Pick.there ?_));done))|(refine' Cons.ap ?_;((repeat' first|(exact Pick.here)|(refine' Pick.there ?_));done))|(exact Cons.blk 0 rfl rfl rfl)|(exact Cons.blk 1 rfl rfl rfl)|(exact Cons.blk 2 rfl rfl rfl)|(exact Cons.blk 3 rfl rfl rfl)|(exact Cons.blk 4 rfl rfl rfl)|(exact Cons.blk 5 rfl rfl rfl)|(exact Cons.pl rfl rfl)|(exact Cons.pl (by assumption) (by assumption))|(refine' xE.cons ?_ ?_)|(exact xE.sK rfl rfl)|(exact xE.sK (by assumption) (by assumption))|(refine' Cons.agg ?_));done))
set_option maxHeartbeats 4000000 in
theorem ZL (p:PL) (hw:qV p.v≤1048576) (ih:∀ k∈p.parts,Di Tryz.prog 66 k.v):Di Tryz.prog 101 p.v:=by
 intro s
 have hh:Hold s s.next [] := .start _ _
 have Dc:=PL.qC p
 have l1:=xW iV p.tables
 have l2:=xW PE.vS p.on
 have l3:=xW PE.zF p.xO
 have l4:=xW PE.sv p.order
 have l5:=xW PE.zF p.items
 have l6:=xW sV p.names
 have hq1:=fun s=>yJ p.xO (by omega) (fun x hx=>ih x (qZ.aL hx)) s
 have hq2:=fun s=>yJ p.items (by omega) (fun x hx=>ih x (qZ.yS hx)) s
 have hp1:V.xV (p.tables.map iV)=true:=QO (wX _)
 have hp2:bV (p.tables.map iV)=0:=JD (fun _=>rfl) _
 have hp3:V.xV (p.names.map sV)=true:=QO (lZ _)
 have Sv:bV (p.names.map sV)=0:=JD (fun _=>rfl) _
 refine zi.body Tryz.func101 rfl (by kernel_rfl) ?_
 repeat' first|(refine qW ?_;first|(refine zq.gZ hh rfl rfl ?_;intro s n hh))|(refine qj ?_;refine zq.kR zx hh rfl rfl ?_;intro s n hh)|(refine zf ?_;first|(refine zq.nil ?_))|(refine zH ?_;first|(refine WL.seq ?_)|(refine WL.region (by kernel_rfl) ?_))|(refine zw ?_)
 rename_i s0 hh0 s1 nP OY
 rename Nat=>nR
 refine WL.YP (fun x:Nat × Nat × Nat × Nat × Nat=>[(1,.ptr nP 0),(2,.ptr nR 0),(3,.ptr x.1 0)])
   (fun x=>[.cell x.1 [.sl x.2.1 (p.tables.map iV),.zl,(kH x.2.2.1 (.sl 0 (p.xO.map PE.zF))).1,.zl,(kH x.2.2.2.1 (.sl 0 (p.items.map PE.zF))).1,.sl x.2.2.2.2 (p.names.map sV),.bool p.distinct,.int .i64 p.limit],
     .cell nR [.zl,.zl,.zl,.zl,.zl,.zl,.bool false,.int .i64 0],.cell nP p.v.cells,
     .acc x.2.1 1 (p.tables.map iV) (p.tables.map iV),.blk x.2.2.1 (.sl 0 (p.xO.map PE.zF)),.blk x.2.2.2.1 (.sl 0 (p.items.map PE.zF)),.acc x.2.2.2.2 1 (p.names.map sV) (p.names.map sV)]) (fun _=>True) ?_ (fun x s _ hh=>?_)
 · skip
   repeat' first|(refine qj ?_;refine zq.kR zx hh rfl rfl ?_;intro s n hh)|(refine zU ?_;first|(refine zq.zN zx 0 hh rfl rfl rfl rfl rfl ?_ rfl rfl rfl ?_;(focus (repeat' first|(exact rfl)|(refine kS (uj _ _ _) ?_)|(refine kS rfl ?_))) ;intro s hh)|(refine zq.zN zx 1 hh rfl rfl rfl rfl rfl ?_ rfl rfl rfl ?_;(focus (repeat' first|(exact rfl)|(refine kS (uj _ _ _) ?_)|(refine kS rfl ?_))) ;intro s hh)|(refine zq.zN zx 2 hh rfl rfl rfl rfl rfl ?_ rfl rfl rfl ?_;(focus (repeat' first|(exact rfl)|(refine kS (uj _ _ _) ?_)|(refine kS rfl ?_))) ;intro s hh)|(refine zq.zN zx 3 hh rfl rfl rfl rfl rfl ?_ rfl rfl rfl ?_;(focus (repeat' first|(exact rfl)|(refine kS (uj _ _ _) ?_)|(refine kS rfl ?_))) ;intro s hh)|(refine zq.zN zx 4 hh rfl rfl rfl rfl rfl ?_ rfl rfl rfl ?_;(focus (repeat' first|(exact rfl)|(refine kS (uj _ _ _) ?_)|(refine kS rfl ?_))) ;intro s hh))|(refine ji ?_;first|(refine' zq.Na zx rfl rfl rfl rfl rfl rfl rfl rfl hh ?_ ?_ (xU.of ?_ rfl) ?_;rotate_left 3 ;(focus (first|(apply wL.pl;(focus ((repeat' first|(exact xE.sK (by assumption) (by assumption)));done))))) ;(focus ((repeat' first|(exact zS.map fun _=>rfl));done)) ;(focus (first | omega |(simp ;omega))) ;intro s n hh))|(refine zy 33 ?_;first|(refine zq.nC rfl rfl rfl U8 hh (.cons (.pl (xY p.xO)) .nil) (fun t=>hq1 t) (xY _) ?_;intro s n hh)|(refine zq.nC rfl rfl rfl U8 hh (.cons (.pl (xY p.items)) .nil) (fun t=>hq2 t) (xY _) ?_;intro s n hh))|(refine zf ?_;first|(refine zq.nil ?_))|(refine zH ?_;first|(refine WL.XY (id:=1) (.fl 0 (.fl 1 (.fl 2 (.fl 4 (.fl 5 (.fl 7 (.fl 8 (.fl 10 (.fl 11 (.fl 12 (.fl 14 (.fl 15 (.fl 16 (.fl 17 (.ef 3 (.ef 6 (.ef 9 (.ef 13 (.fl 18 (.ef 19 (.ef 20 .done .stop) .stop)) (.ef 19 (.ef 13 (.fl 18 (.ef 20 .done .stop)) .stop) .stop)) (.ef 19 (.ef 9 (.ef 13 (.fl 18 (.ef 20 .done .stop)) .stop) .stop) .stop)) (.ef 19 (.ef 6 (.ef 9 (.ef 13 (.fl 18 (.ef 20 .done .stop)) .stop) .stop) .stop) .stop)) (.ef 19 (.ef 3 (.ef 6 (.ef 9 (.ef 13 (.fl 18 (.ef 20 .done .stop)) .stop) .stop) .stop) .stop) .stop)))))))))))))))) [3,6,9,13,19,20] [[],[],[1],[0,1,2],[],[4],[0,1,2,3,4,5],[],[7],[0,1,2,3,4,5,6,7,8],[],[],[11],[0,1,2,3,4,5,6,7,8,9,10,11,12],[],[14],[],[16],[0,1,2,3,4,5,6,7,8,9,10,11,12,13,14,15,16,17],[],[0,1,2,3,4,5,6,7,8,9,10,11,12,13,14,15,16,17,18,19]] (by kernel_rfl) (by kernel_rfl) ?_))|(refine Pb ?_;first|(exact nG.stop)|(refine nG.done ?_)|(refine nG.fl rfl (.ev zx rfl) ?_)|(refine nG.fl rfl (zk.Gm zx rfl rfl rfl rfl rfl) ?_)|(refine nG.fl rfl (zk.zM zx 1 hh rfl rfl rfl rfl) ?_)|(refine' nG.fl (v := .agg _) rfl (zk.U4 zx rfl rfl rfl ?_) ?_;rotate_left 1;(focus ((repeat' first|(exact Fills.nil)|(refine' Fills.cons rfl rfl rfl rfl ?_)|(refine' Fills.cons rfl (mY _ _ _) rfl rfl ?_));done)))|(refine nG.ef rfl rfl ?_ ?_))|(refine And.intro ?_ ?_)|(exact xR.nil)|(refine xR.cons ?_ ?_)|(refine jG.fl rfl rfl (.ev zx rfl))|(refine jG.fl rfl rfl (zk.Gm zx rfl rfl rfl rfl rfl))|(refine jG.fl rfl rfl (zk.U4 zx rfl rfl rfl ?_);(focus ((repeat' first|(exact Fills.nil)|(refine' Fills.cons rfl rfl rfl rfl ?_)|(refine' Fills.cons rfl (mY _ _ _) rfl rfl ?_));done)))|(refine jG.fl rfl rfl (zk.zM zx 2 hh rfl rfl rfl rfl))|(refine jG.fl rfl rfl (zk.zM zx 3 hh rfl rfl rfl rfl))|(refine jG.fl rfl rfl (zk.zM zx 4 hh rfl rfl rfl rfl))|(refine jG.fl rfl rfl (zk.zM zx 5 hh rfl rfl rfl rfl))|(refine jG.fl rfl rfl (zk.zM zx 6 hh rfl rfl rfl rfl))
   all_goals
     refine' bE.of ((_,_,_,_,_)) ?_ hh ?_ ?_
     rotate_left 5
     · repeat' first | exact qz.nil |(refine qz.mk rfl ?_ ?_) | rfl |(simp [] <;> fail)|(simp [];omega)
     · dsimp only;(repeat' first|(exact zK.nil)|(exact zK.refl _)|(refine' zK.p ?_ ?_;rotate_left 1;(focus (((repeat' first|(exact Pick.here)|(refine' Pick.there ?_));done)))))
     · dsimp only;repeat' first | exact trivial | assumption | omega |(refine And.intro ?_ ?_) | rfl |(simp [] <;> fail)
 obtain ⟨nO,na,nw,ni,nb⟩:=x
 dsimp only at hh ⊢
 repeat' first|(refine zf ?_;first|(refine zq.nil ?_)|(refine zq.ev zx rfl ?_))|(refine zH ?_;first|(refine WL.seq ?_)|(refine WL.region (by kernel_rfl) ?_)|(refine WL.block ?_))|(refine zw ?_)
 refine WL.U0 0 1 1 rfl rfl rfl hh (fun s id hh=>?_)
 replace hh:=hh _ rfl _ rfl
 refine WL.yw (fun y:Nat × List V × List V=>p.on.length - y.1) (fun y=>[(1,.ptr nP 0),(2,.ptr nR 0),(3,.ptr nO 0),(4,.int .i64 (y.1:Int))])
   (fun y=>[.acc id 1 y.2.1 y.2.2,.cell nO [.sl na (p.tables.map iV),.sl id y.2.1,(kH nw (.sl 0 (p.xO.map PE.zF))).1,.zl,(kH ni (.sl 0 (p.items.map PE.zF))).1,.sl nb (p.names.map sV),.bool p.distinct,.int .i64 p.limit],
     .cell nR [.zl,.zl,.zl,.zl,.zl,.zl,.bool false,.int .i64 0],.cell nP p.v.cells,.acc na 1 (p.tables.map iV) (p.tables.map iV),.blk nw (.sl 0 (p.xO.map PE.zF)),.blk ni (.sl 0 (p.items.map PE.zF)),.acc nb 1 (p.names.map sV) (p.names.map sV)])
   (fun y=>y.1≤p.on.length∧y.2.2=(p.on.take y.1).map PE.vS) (0,[],[]) ⟨by simp,by simp⟩ ⟨rfl,rfl,rfl,rfl,trivial⟩ hh (by (repeat' first|(exact zK.nil)|(exact zK.refl _)|(refine' zK.p ?_ ?_;rotate_left 1;(focus (((repeat' first|(exact Pick.here)|(refine' Pick.there ?_));done)))))) (fun y s hI hh=>?_)
 obtain ⟨i,us,ds⟩:=y
 obtain ⟨hi,hd⟩:=hI
 dsimp only at hi hd hh ⊢
 have QD:=hh.XQ 0 rfl
 have hdl:ds.length=i:=by rw [hd];simp;omega
 rcases Nat.lt_or_ge i p.on.length with hlt | hge
 · have hga : (p.on.map PE.vS)[i]? = some (PE.vS p.on[i]) := by rw [List.getElem?_map, List.getElem?_eq_getElem hlt]; rfl
   have hst:(p.on.take (i+1)).map PE.vS=ds++[PE.vS p.on[i]]:=by rw [hd,List.take_succ_eq_append_getElem hlt,List.map_append];rfl
   have hmm:=fun s=>yJ p.on[i] (by have k1:=PL.EA (List.getElem_mem hlt);have k2:=xW PE.zF p.on[i];omega) (fun x hx=>ih x (qZ.Zm (List.getElem_mem hlt) hx)) s
   generalize p.on[i]=l at hga hst hmm
   repeat' first|(refine zU ?_;first|(refine zq.zN zx 1 hh rfl rfl rfl rfl rfl rfl rfl rfl rfl ?_;intro s hh))|(refine ji ?_;first|(refine' zq.appH zx 1 rfl rfl rfl rfl rfl rfl rfl rfl rfl rfl hh ?_ ?_ (xU.of ?_ rfl) ?_;rotate_left 3 ;(focus (first|(apply wL.pl;(focus ((repeat' first|(exact xE.nil)|(refine' Cons.bp ?_;((repeat' first|(exact Pick.here));done))|(refine' xE.cons ?_ ?_));done))))) ;(focus ((repeat' first|(exact zS.nil)|(refine zS.ct rfl rfl ?_));done)) ;(focus (first | omega |(simp ;omega))) ;intro s hh))|(refine zy 33 ?_;refine zq.nC rfl rfl rfl U8 hh (.cons (.pl (xY l)) .nil) (fun t=>hmm t) (xY _) ?_;intro s n hh)|(refine zf ?_;first|(refine zq.nil ?_)|(refine zq.ev zx rfl ?_)|(refine zo ?_;first|(refine zq.ans (zk.zM zx 3 hh rfl rfl rfl rfl) ?_))|(refine qx ?_;first|(refine zq.ans (zk.z8 zx rfl rfl rfl) ?_))|(refine xk ?_;first|(refine zq.ans (zk.add rfl rfl ?_) ?_;(focus (constructor <;> omega)))))|(refine zH ?_;first|(refine WL.seq ?_)|(refine WL.region (by kernel_rfl) ?_)|(refine WL.drawn (id:=5) [0,1,2,3,4,5,6,7,8,9,10,11] [7,9,11] [[],[0],[],[2],[],[2,3,4],[2,3,4,5],[2,3,4,5,6],[2,3,4,5,6,7],[0,1,2,3,4,5,6,7,8],[0,1,2,3,4,5,6,7,8,9],[0,1,2,3,4,5,6,7,8,9,10]] (by kernel_rfl) (by kernel_rfl) ?_)|(refine WL.block ?_)|(refine WL.skip ?_)|(refine zu ?_;first|(refine WL.zJ rfl ?_ ?_;(focus (first|(simp <;> omega))))))|(refine vN ?_;first|(refine zA.nil ?_)|(refine zA.fl rfl rfl (.ev zx rfl) ?_)|(refine zA.fl rfl rfl (zk.Zb zx rfl rfl rfl rfl rfl rfl rfl rfl ?_) ?_;(focus ((repeat' first|(exact jM.nil)|(refine jM.ct rfl rfl ?_));done)))|(refine qo rfl ?_;first|(refine zA.fl rfl rfl (zk.zM zx 1 hh rfl rfl rfl rfl) ?_)|(refine zA.fl rfl rfl (zk.zM zx 3 hh rfl rfl rfl rfl) ?_))|(refine kQ rfl ?_;first|(refine zA.fl rfl rfl (zk.idx zx rfl rfl rfl rfl rfl hga rfl rfl) ?_))|(refine zA.iY rfl rfl rfl ?_))|(refine zw ?_)|(refine zQ ?_)|(refine And.intro ?_ ?_)|(exact xR.nil)|(refine xR.cons ?_ ?_)|(refine jG.fl rfl rfl (.ev zx rfl))|(refine jG.fl rfl rfl (zk.zM zx 2 hh rfl rfl rfl rfl))
   all_goals
     refine' kW.of ((i+1,_,ds++[PE.vS l])) ?_ hh ?_ ?_ ?_
     rotate_left 1
     · repeat' first | exact qz.nil |(refine qz.mk rfl ?_ ?_) | rfl |(simp [hst] <;> fail)|(simp [hst];omega)
     · first|((repeat' first|(exact zK.nil)|(exact zK.refl _)|(refine' zK.p ?_ ?_;rotate_left 1;(focus (((repeat' first|(exact Pick.here)|(refine' Pick.there ?_));done)))));done)|(dsimp only;simp only [List.map_append,List.map_cons,List.map_nil];(repeat' first|(exact zK.nil)|(exact zK.refl _)|(refine' zK.p ?_ ?_;rotate_left 1;(focus (((repeat' first|(exact Pick.here)|(refine' Pick.there ?_));done)))));done)|(dsimp only;simp only [List.map_append,List.map_cons,List.map_nil,hst];(repeat' first|(exact zK.nil)|(exact zK.refl _)|(refine' zK.p ?_ ?_;rotate_left 1;(focus (((repeat' first|(exact Pick.here)|(refine' Pick.there ?_));done)))));done)
     · dsimp only;repeat' first | omega | assumption |(refine And.intro ?_ ?_) | rfl |(simp [hst] <;> fail)|(simp [hst];omega)|(simp_all [hst] <;> fail)|(simp_all [hst];omega)
     · dsimp only;first | omega |(simp;omega)|(simp_all;omega)
 have e1:i=p.on.length:=by omega
 subst e1
 rw [List.take_length] at hd
 repeat' first|(refine zf ?_;first|(refine zq.nil ?_)|(refine zq.ev zx rfl ?_)|(refine zo ?_;first|(refine zq.ans (zk.zM zx 3 hh rfl rfl rfl rfl) ?_))|(refine qx ?_;first|(refine zq.ans (zk.z8 zx rfl rfl rfl) ?_)))|(refine zH ?_;first|(refine WL.seq ?_)|(refine WL.region (by kernel_rfl) ?_)|(refine WL.block ?_)|(refine WL.exit ?_)|(refine zu ?_;first|(refine WL.zY rfl ?_ ?_;(focus (first|(simp <;> omega))))))|(refine zw ?_)|(refine zC ?_)|(refine zV ?_)|(refine ko ?_)
 refine WL.U0 1 3 11 rfl rfl rfl hh (fun s PW hh=>?_)
 replace hh:=hh _ rfl _ rfl
 refine WL.yw (fun y:Nat × List V × List V=>p.order.length - y.1) (fun y=>[(1,.ptr nP 0),(2,.ptr nR 0),(3,.ptr nO 0),(5,.int .i64 (y.1:Int))])
   (fun y=>[.acc PW 11 y.2.1 y.2.2,.cell nO [.sl na (p.tables.map iV),.sl id us,(kH nw (.sl 0 (p.xO.map PE.zF))).1,.sl PW y.2.1,(kH ni (.sl 0 (p.items.map PE.zF))).1,.sl nb (p.names.map sV),.bool p.distinct,.int .i64 p.limit],
     .cell nR [.zl,.zl,.zl,.zl,.zl,.zl,.bool false,.int .i64 0],.cell nP p.v.cells,.acc id 1 us ds,.acc na 1 (p.tables.map iV) (p.tables.map iV),.blk nw (.sl 0 (p.xO.map PE.zF)),.blk ni (.sl 0 (p.items.map PE.zF)),.acc nb 1 (p.names.map sV) (p.names.map sV)])
   (fun y=>y.1≤p.order.length∧y.2.2=(p.order.take y.1).map PE.sv) (0,[],[]) ⟨by simp,by simp⟩ ⟨rfl,rfl,rfl,rfl,trivial⟩ hh (by (repeat' first|(exact zK.nil)|(exact zK.refl _)|(refine' zK.p ?_ ?_;rotate_left 1;(focus (((repeat' first|(exact Pick.here)|(refine' Pick.there ?_));done)))))) (fun y s hI hh=>?_)
 obtain ⟨i,Sw,ZN⟩:=y
 obtain ⟨hi,hd2⟩:=hI
 dsimp only at hi hd2 hh ⊢
 have RN:=hh.XQ 0 rfl
 have RO:ZN.length=i:=by rw [hd2];simp;omega
 rcases Nat.lt_or_ge i p.order.length with hlt | hge
 · have hga : (p.order.map PE.sv)[i]? = some (PE.sv p.order[i]) := by rw [List.getElem?_map, List.getElem?_eq_getElem hlt]; rfl
   have hst:(p.order.take (i+1)).map PE.sv=ZN++[PE.sv p.order[i]]:=by rw [hd2,List.take_succ_eq_append_getElem hlt,List.map_append];rfl
   have hE:=ih p.order[i].1 (qZ.dK (List.getElem_mem hlt))
   generalize p.order[i]=x at hga hst hE
   repeat' first|(refine zU ?_;first|(refine zq.zN zx 1 hh rfl rfl rfl rfl rfl rfl rfl rfl rfl ?_;intro s hh))|(refine ji ?_;first|(refine' zq.appH zx 1 rfl rfl rfl rfl rfl rfl rfl rfl rfl rfl hh ?_ ?_ (xU.of ?_ rfl) ?_;rotate_left 3 ;(focus (first|(apply wL.pl;(focus ((repeat' first|(exact xE.nil)|(exact Cons.blk 0 rfl rfl rfl)|(refine' xE.cons ?_ ?_));done))))) ;(focus ((repeat' first|(exact zS.nil)|(refine' zS.cg rfl ?_ ?_;(focus (repeat' first|(exact rfl)|(refine kS (uj _ _ _) ?_)|(refine kS rfl ?_)))));done)) ;(focus (first | omega |(simp ;omega))) ;intro s hh))|(refine zy 66 ?_;refine zq.nC rfl rfl rfl He hh (.cons (.pl (PE.eu x.1)) .nil) (fun t=>hE t) (PE.eu _) ?_;intro s n hh ;replace hh:=hh.sv x.2)|(refine zf ?_;first|(refine zq.nil ?_)|(refine zq.ev zx rfl ?_)|(refine zo ?_;first|(refine zq.ans (zk.zM zx 3 hh rfl rfl rfl rfl) ?_))|(refine qx ?_;first|(refine zq.ans (zk.z8 zx rfl rfl rfl) ?_))|(refine xk ?_;first|(refine zq.ans (zk.add rfl rfl ?_) ?_;(focus (constructor <;> omega)))))|(refine zH ?_;first|(refine WL.seq ?_)|(refine WL.region (by kernel_rfl) ?_)|(refine WL.drawn (id:=9) [0,1,2,3,4,5,6,7,9,10,11,12,13,14,8,15,16,17,18,19] [8,17,19] [[],[0],[],[2],[],[2,3,4],[2,3,4,5],[2,3,4,5,6],[2,3,4,5,6,7],[],[9],[],[9,10,11],[9,10,11,12],[9,10,11,12,13],[2,3,4,5,6,7,8,9,10,11,12,13,14],[2,3,4,5,6,7,8,9,10,11,12,13,14,15],[0,1,2,3,4,5,6,7,8,9,10,11,12,13,14,15,16],[0,1,2,3,4,5,6,7,8,9,10,11,12,13,14,15,16,17],[0,1,2,3,4,5,6,7,8,9,10,11,12,13,14,15,16,17,18]] (by kernel_rfl) (by kernel_rfl) ?_)|(refine WL.block ?_)|(refine WL.skip ?_)|(refine zu ?_;first|(refine WL.zJ rfl ?_ ?_;(focus (first|(simp <;> omega))))))|(refine vN ?_;first|(refine zA.nil ?_)|(refine zA.fl rfl rfl (.ev zx rfl) ?_)|(refine zA.fl rfl rfl (zk.fD zx rfl rfl rfl rfl rfl rfl rfl rfl rfl) ?_)|(refine qo rfl ?_;first|(refine zA.fl rfl rfl (zk.zM zx 1 hh rfl rfl rfl rfl) ?_)|(refine zA.fl rfl rfl (zk.zM zx 3 hh rfl rfl rfl rfl) ?_))|(refine kQ rfl ?_;first|(refine zA.fl rfl rfl (zk.idx zx rfl rfl rfl rfl rfl hga rfl rfl) ?_))|(refine zA.iY rfl rfl rfl ?_))|(refine zw ?_)|(refine zQ ?_)|(refine And.intro ?_ ?_)|(exact xR.nil)|(refine xR.cons ?_ ?_)|(refine jG.fl rfl rfl (.ev zx rfl))|(refine jG.fl rfl rfl (zk.zM zx 2 hh rfl rfl rfl rfl))|(refine jG.fl rfl rfl (zk.zM zx 4 hh rfl rfl rfl rfl))|(refine jG.fl rfl rfl (zk.idx zx rfl rfl rfl rfl rfl hga rfl rfl))
   all_goals
     refine' kW.of ((i+1,_,ZN++[PE.sv x])) ?_ hh ?_ ?_ ?_
     rotate_left 1
     · repeat' first | exact qz.nil |(refine qz.mk rfl ?_ ?_) | rfl |(simp [hst] <;> fail)|(simp [hst];omega)
     · first|((repeat' first|(exact zK.nil)|(exact zK.refl _)|(refine' zK.p ?_ ?_;rotate_left 1;(focus (((repeat' first|(exact Pick.here)|(refine' Pick.there ?_));done)))));done)|(dsimp only;simp only [List.map_append,List.map_cons,List.map_nil];(repeat' first|(exact zK.nil)|(exact zK.refl _)|(refine' zK.p ?_ ?_;rotate_left 1;(focus (((repeat' first|(exact Pick.here)|(refine' Pick.there ?_));done)))));done)|(dsimp only;simp only [List.map_append,List.map_cons,List.map_nil,hst];(repeat' first|(exact zK.nil)|(exact zK.refl _)|(refine' zK.p ?_ ?_;rotate_left 1;(focus (((repeat' first|(exact Pick.here)|(refine' Pick.there ?_));done)))));done)
     · dsimp only;repeat' first | omega | assumption |(refine And.intro ?_ ?_) | rfl |(simp [hst] <;> fail)|(simp [hst];omega)|(simp_all [hst] <;> fail)|(simp_all [hst];omega)
     · dsimp only;first | omega |(simp;omega)|(simp_all;omega)
 have e1:i=p.order.length:=by omega
 subst e1
 rw [List.take_length] at hd2
 repeat' first|(refine zU ?_;first|(refine zq.zN zx 2 hh rfl rfl rfl rfl rfl ?_ rfl rfl rfl ?_;(focus (repeat' first|(exact rfl)|(refine kS (uj _ _ _) ?_)|(refine kS rfl ?_))) ;intro s hh))|(refine zf ?_;first|(refine zq.nil ?_)|(refine zq.ev zx rfl ?_)|(refine zo ?_;first|(refine zq.ans (zk.zM zx 1 hh rfl rfl rfl rfl) ?_)|(refine zq.ans (zk.zM zx 3 hh rfl rfl rfl rfl) ?_))|(refine qx ?_;first|(refine zq.ans (zk.z8 zx rfl rfl rfl) ?_)))|(refine zH ?_;first|(refine WL.seq ?_)|(refine WL.region (by kernel_rfl) ?_)|(refine WL.exit ?_)|(refine WL.ret ?_)|(refine zu ?_;first|(refine WL.zY rfl ?_ ?_;(focus (first|(simp <;> omega))))))|(refine zw ?_)|(refine zC ?_)|(refine zV ?_)|(refine ko ?_)|(refine' zh.r1 (r := .cell 2 33) (.inl rfl) ?_ ?_;rotate_left 1;(focus (first|(exact zn.xM 2 zx hh rfl rfl rfl rfl))))
 subst hd
 subst hd2
 exact Own2.Ej hh (by ((repeat' first|(exact xE.nil)|(exact Cons.jo)|(exact Cons.zl)|(refine' Cons.bp ?_;((repeat' first|(exact Pick.here)|(refine' Pick.there ?_));done))|(refine' Cons.ap ?_;((repeat' first|(exact Pick.here)|(refine' Pick.there ?_));done))|(exact Cons.blk 0 rfl rfl rfl)|(exact Cons.blk 1 rfl rfl rfl)|(exact Cons.blk 2 rfl rfl rfl)|(exact Cons.blk 3 rfl rfl rfl)|(exact Cons.blk 4 rfl rfl rfl)|(exact Cons.blk 5 rfl rfl rfl)|(exact Cons.pl rfl rfl)|(exact Cons.pl (by assumption) (by assumption))|(refine' xE.cons ?_ ?_)|(exact xE.sK rfl rfl)|(exact xE.sK (by assumption) (by assumption))|(refine' Cons.agg ?_));done))
end Go.Proofs.YtolhegocbkckdaaGreat
