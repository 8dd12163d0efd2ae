/-
 Queries' trees copied, into memory of one's own. Own work; no condition.
-/
import Derived.Test.YtikghanejpigjaaDEd3
namespace Go.Proofs.Ytikghanejpigjaa
open Go
set_option linter.unusedSimpArgs false
set_option linter.unusedVariables false
def CpE (e:EE):Prop:=OutB Try.prog 27 [e.v] (fun f:Nat→Nat × Nat=>EE.ov (e,f)) (fun f=>EE.ob (e,f)) (fun _=>True)
theorem EE.snocS (es:List (EE × Bool)) (x:EE) (d:Bool):es.map EE.sv++[V.agg [.int .i64 x.kind,.int .i64 x.op,.bool x.nt,.int .i64 x.value.kind,.int .i64 x.value.num,.str x.value.text,.str x.qual,.str x.name,.sl 0 (x.kids.map EE.toV),.sl 0 (x.sub.map EE.queryV),.bool d]]=(es++[(x,d)]).map EE.sv:=by rw [List.map_append];rfl
theorem EQ.snocQ (es:List EQ) (q:EQ):es.map EE.queryV++[V.agg [.bool q.distinct,.sl 0 (q.items.map EItem.v),.sl 0 (q.src.map ESrc.v),.sl 0 (q.wher.map EE.toV),.sl 0 (q.order.map EE.sv),.int .i64 q.limit]]=(es++[q]).map EE.queryV:=by rw [EQ.q_eq,List.map_append];rfl
theorem specl7Copies_c (l:List EE) (hl:l.length≤1000000) (ih:∀ e∈l,CpE e):OutB Try.prog 50 [.sl 0 (l.map EE.toV)] (fun w:Nat × Nat => .slm (.is w.1) w.2 0 l.length) (fun w=>[.own (.slm (.is w.1) w.2 0 l.length) (.sl 0 (l.map EE.toV))]) (fun _=>True):=by
 intro s H hh
 have hml:(l.map EE.toV).length=l.length:=List.length_map ..
 refine LCalls.body0 Try.func50 rfl (by kernel_rfl) ?_
 repeat' first |(refine kBsl ?_ ;first |(refine LOps.ans (AnsL.bslN tT_ok rfl rfl rfl rfl rfl) ?_)) |(refine kOps ?_;first |(refine LOps.nil ?_) |(refine LOps.ev tT_ok rfl ?_)) |(refine kWL ?_;first |(refine WL.seq ?_) |(refine WL.region (by kernel_rfl) ?_) |(refine WL.block ?_)) |(refine lthen_n ?_)
 replace hh:=hh.nil0
 refine WL.loopH (fun y:List EE × Nat × Nat=>l.length - y.1.length) (fun y=>[(0,.sl 0 (l.map EE.toV)),(3,.slm (.is y.2.1) y.2.2 0 y.1.length),(4,.int .i64 (y.1.length:Int))])
   (fun y => .own (.slm (.is y.2.1) y.2.2 0 y.1.length) (.sl 0 (y.1.map EE.toV))::H)
   (fun y=>y.1.length≤l.length∧y.1=l.take y.1.length) ([],0,0) ⟨Nat.zero_le _,rfl⟩ ⟨rfl,rfl,rfl,trivial⟩ hh (Sel.refl _) (fun y s hI hh=>?_)
 obtain ⟨es,c0,l0⟩:=y
 obtain ⟨hI,hE⟩:=hI
 dsimp only at hI hE hh ⊢
 rcases Nat.lt_or_ge es.length l.length with hlt | hge
 · have hga : (l.map EE.toV)[es.length]? = some (EE.v l[es.length]) := by rw [List.getElem?_map, List.getElem?_eq_getElem hlt]; simp only [Option.map_some, EE.toV_eq]
   have hC:=ih l[es.length] (List.getElem_mem hlt)
   have htk:l.take (es.length+1)=es++[l[es.length]]:=by rw [List.take_succ_eq_append_getElem hlt, ← hE]
   generalize l[es.length]=x at hga hC htk
   unfold CpE EE.v at hC
   unfold EE.v at hga
   repeat' first |(refine kBsl ?_ ;first |(refine LOps.ans (AnsL.bslE tT_ok rfl rfl rfl rfl rfl rfl rfl rfl ?_) ?_ ;(focus ((repeat' first |(exact ElsH.of rfl));done)))) |(refine kApp ?_ ;first |(refine' LOps.appW tT_ok 2 rfl rfl rfl rfl rfl rfl rfl rfl rfl rfl hh ?_ ?_ ?_ (AppB.ofW ?_ rfl) ?_ ;rotate_left 2 ;(focus (first |(intro x hx;obtain ⟨y,_,rfl⟩:=List.mem_map.1 hx;first | rfl | exact PE.cells_len _ | exact PE.planV_len _ | exact EE.cells_len _ | exact EE.queryV_len _))) ;(focus ((repeat' first |(exact ConsOL.nil) |(exact ConsO.scal rfl) |(refine' ConsO.op ?_;((repeat' first |(exact Pick.here) |(refine' Pick.there ?_));done)) |(refine' ConsOL.cons ?_ ?_) |(refine' ConsO.agg ?_));done)) ;(focus ((repeat' first |(exact Elems.of rfl));done)) ;(focus (first | omega |(simp ;omega))) ;intro s c n hh)) |(refine kCallN 27 ?_ ;refine LOps.outB rfl rfl ok27 hh (hC) ?_ ;intro s y hqO hh ;try dsimp only [List.cons_append,List.nil_append] at hh) |(refine kOps ?_;first |(refine LOps.nil ?_) |(refine LOps.ev tT_ok rfl ?_) |(refine kLen ?_;first |(refine LOps.ans (AnsL.lenM tT_ok rfl rfl rfl) ?_)) |(refine kBin ?_;first |(refine LOps.ans (AnsL.add rfl rfl ?_) ?_;(focus (constructor <;> omega)))) |(refine kIdx ?_;first |(refine LOps.ans (AnsL.idx tT_ok rfl rfl rfl rfl rfl hga rfl rfl) ?_))) |(refine kWL ?_;first |(refine WL.seq ?_) |(refine WL.region (by kernel_rfl) ?_) |(refine WL.block ?_) |(refine WL.skip ?_) |(refine kCond ?_;first |(refine WL.condT' rfl ?_ ?_;(focus (first |(simp <;> omega)))))) |(refine lthen_n ?_) |(refine lblock_n ?_)
   rw [EE.snoc,show (es.map EE.toV).length+[EE.ov (x,y)].length=(es++[x]).length by simp] at hh
   refine lbackH.of (es++[x],c,n) ?_ hh (Sel.refl _) ⟨by simp;omega,by simp [htk]⟩ (by simp;omega)
   dsimp only
   repeat' first | exact SubL.nil |(refine SubL.mk rfl ?_ ?_) | rfl |(simp;omega) |(simp <;> fail)
 · have e1 : es.length = l.length := by omega
   rw [e1,List.take_length] at hE
   subst hE
   repeat' first |(refine kOps ?_;first |(refine LOps.nil ?_) |(refine LOps.ev tT_ok rfl ?_) |(refine kLen ?_;first |(refine LOps.ans (AnsL.lenM tT_ok rfl rfl rfl) ?_))) |(refine kWL ?_;first |(refine WL.seq ?_) |(refine WL.region (by kernel_rfl) ?_) |(refine WL.exit ?_) |(refine WL.ret ?_) |(refine kCond ?_;first |(refine WL.condF' rfl ?_ ?_;(focus (first |(simp <;> omega)))))) |(refine lthen_n ?_) |(refine lthen_e ?_) |(refine lblock_e ?_) |(refine lbackH_e ?_) |(refine LPost.r1 (r := .tmp 2) (.inl rfl) (Res1.tmp rfl) ?_)
   exact OutB.fin (y:=(c0,l0)) trivial rfl hh (Sel.refl _)
set_option maxHeartbeats 4000000 in
theorem specl7CopyQuery_c (q:EQ) (hw:wgt q.v≤1000000) (ih:∀ e∈q.parts,CpE e):OutB Try.prog 51 [q.v] (fun f:Nat→Nat × Nat=>EQ.ov (q,f)) (fun f=>EQ.ob (q,f)) (fun _=>True):=by
 intro s H hh
 have hlen:q.items.length≤1000000∧q.src.length≤1000000∧q.order.length≤1000000∧q.wher.length≤1000000:=by
   have h1:=EQ.wgt_eq q
   have h2:=wgt_len EItem.v q.items
   have h3:=wgt_len ESrc.v q.src
   have h4:=wgt_len EE.sv q.order
   have h5:=wgt_len EE.toV q.wher
   omega
 have hW:=specl7Copies_c q.wher (by omega) fun e he=>ih e (QueryOf.mem_wher he)
 unfold EQ.v
 refine LCalls.body0 Try.func51 rfl (by kernel_rfl) ?_
 repeat' first |(refine kBox ?_ ;first |(refine LOps.boxH hh rfl rfl ?_ ;intro s n hh)) |(refine kAlloc ?_ ;refine LOps.allocH tT_ok hh rfl rfl ?_ ;intro s n hh) |(refine kOps ?_;first |(refine LOps.nil ?_)) |(refine kWL ?_;first |(refine WL.seq ?_) |(refine WL.region (by kernel_rfl) ?_)) |(refine lthen_n ?_)
 rename_i nb _
 refine WL.cutH (fun z:Nat × Nat × Nat=>[(1,.ptr nb 0),(2,.ptr n 0),(3,.ptr z.1 0)]) (fun z => .cell z.1 [.bool q.distinct,.nilsl,.nilsl,.slm (.is z.2.1) z.2.2 0 q.wher.length,.nilsl,.int .i64 q.limit] :: .own (.slm (.is z.2.1) z.2.2 0 q.wher.length) (.sl 0 (q.wher.map EE.toV)) :: .cell nb [.bool q.distinct,.sl 0 (q.items.map EItem.v),.sl 0 (q.src.map ESrc.v),.sl 0 (q.wher.map EE.toV),.sl 0 (q.order.map EE.sv),.int .i64 q.limit] :: .cell n [.bool false,.nilsl,.nilsl,.nilsl,.nilsl,.int .i64 0]::H) (fun _=>True) ?_ (fun z s hI hh=>?_)
 · skip
   repeat' first |(refine kAlloc ?_ ;refine LOps.allocH tT_ok hh rfl rfl ?_ ;intro s n hh) |(refine kStore ?_ ;first |(refine LOps.storeH tT_ok 0 hh rfl rfl rfl rfl rfl rfl rfl rfl rfl ?_ ;intro s hh) |(refine LOps.storeH tT_ok 1 hh rfl rfl rfl rfl rfl rfl rfl rfl rfl ?_ ;intro s hh)) |(refine kCallN 50 ?_ ;refine LOps.outB rfl rfl ok50 hh (hW) ?_ ;intro s y hqO hh ;try dsimp only [List.cons_append,List.nil_append] at hh) |(refine kOps ?_;first |(refine LOps.nil ?_)) |(refine kWL ?_;first |(refine WL.drawnO (id:=1) (.fl 0 (.fl 1 (.fl 2 (.fl 3 (.fl 5 (.fl 6 (.ef 4 (.fl 7 (.ef 8 (.ef 9 .done .stop) .stop)) (.ef 8 (.ef 4 (.fl 7 (.ef 9 .done .stop)) .stop) .stop)))))))) [4,8,9] [[],[0],[],[2],[2,3],[],[5],[0,1,2,3,4,5,6],[],[0,1,2,3,4,5,6,7,8]] (by kernel_rfl) (by kernel_rfl) ?_)) |(refine kDt ?_;first |(exact LDt.stop) |(refine LDt.done ?_) |(refine LDt.fl rfl (.ev tT_ok rfl) ?_) |(refine LDt.fl rfl (AnsL.loadH tT_ok 1 hh rfl rfl rfl rfl) ?_) |(refine LDt.ef rfl rfl ?_ ?_)) |(refine And.intro ?_ ?_) |(exact StsL.nil) |(refine StsL.cons ?_ ?_) |(refine StL.fl rfl rfl (.ev tT_ok rfl)) |(refine StL.fl rfl rfl (AnsL.loadH tT_ok 2 hh rfl rfl rfl rfl)) |(refine StL.fl rfl rfl (AnsL.loadH tT_ok 3 hh rfl rfl rfl rfl))
   all_goals
     refine' CutH.of ((_,_,_)) ?_ hh ?_ ?_
     rotate_left 3
     · repeat' first | exact SubL.nil |(refine SubL.mk rfl ?_ ?_) | rfl |(simp [] <;> fail) |(simp [];omega)
     · dsimp only;(repeat' first |(exact Sel.nil) |(exact Sel.refl _) |(refine' Sel.p ?_ ?_;rotate_left 1;(focus (((repeat' first |(exact Pick.here) |(refine' Pick.there ?_));done)))))
     · dsimp only;repeat' first | exact trivial | assumption | omega |(refine And.intro ?_ ?_) | rfl |(simp [] <;> fail)
 obtain ⟨nq,c2,l2⟩:=z
 clear hI
 try dsimp only at hh ⊢
 refine lthen_n ?_
 refine WL.nilC 0 1 rfl rfl rfl hh (fun s hh=>?_)
 replace hh:=hh _ rfl _ rfl
 refine WL.nilC 1 2 rfl rfl rfl hh (fun s hh=>?_)
 replace hh:=hh _ rfl _ rfl
 refine WL.nilC 2 4 rfl rfl rfl hh (fun s hh=>?_)
 replace hh:=hh _ rfl _ rfl
 repeat' first |(refine kOps ?_;first |(refine LOps.nil ?_) |(refine LOps.ev tT_ok rfl ?_)) |(refine kWL ?_;first |(refine WL.seq ?_) |(refine WL.region (by kernel_rfl) ?_) |(refine WL.block ?_)) |(refine lthen_n ?_)
 refine WL.loopH (fun y:List EItem × Nat × Nat=>q.items.length - y.1.length) (fun y=>[(1,.ptr nb 0),(2,.ptr n 0),(3,.ptr nq 0),(4,.int .i64 (y.1.length:Int))])
   (fun y => .own (.slm (.is y.2.1) y.2.2 0 y.1.length) (.sl 0 (y.1.map EItem.v)) :: .cell nq [.bool q.distinct,.slm (.is y.2.1) y.2.2 0 y.1.length,.slm (.is 0) 0 0 0,.slm (.is c2) l2 0 q.wher.length,.slm (.is 0) 0 0 0,.int .i64 q.limit] :: .own (.slm (.is c2) l2 0 q.wher.length) (.sl 0 (q.wher.map EE.toV)) :: .cell nb [.bool q.distinct,.sl 0 (q.items.map EItem.v),.sl 0 (q.src.map ESrc.v),.sl 0 (q.wher.map EE.toV),.sl 0 (q.order.map EE.sv),.int .i64 q.limit] :: .cell n [.bool false,.nilsl,.nilsl,.nilsl,.nilsl,.int .i64 0]::H)
   (fun y=>y.1.length≤q.items.length∧y.1=q.items.take y.1.length) ([],0,0) ⟨Nat.zero_le _,rfl⟩ ⟨rfl,rfl,rfl,rfl,trivial⟩ hh ?_ (fun y s hI hh=>?_)
 · try dsimp only
   (repeat' first |(exact Sel.nil) |(exact Sel.refl _) |(refine' Sel.p ?_ ?_;rotate_left 1;(focus (((repeat' first |(exact Pick.here) |(refine' Pick.there ?_));done)))))
   all_goals (repeat' first |(exact Sel.refl _) |(refine Sel.drop ?_))
 obtain ⟨is,c0,l0⟩:=y
 obtain ⟨hI,hE⟩:=hI
 dsimp only at hI hE hh ⊢
 have hml:(q.items.map EItem.v).length=q.items.length:=List.length_map ..
 rcases Nat.lt_or_ge is.length q.items.length with hlt | hge
 · have hga : (q.items.map EItem.v)[is.length]? = some (EItem.v q.items[is.length]) := by simp [hlt]
   have hC:=ih q.items[is.length].e (QueryOf.mem_items (List.getElem_mem hlt))
   have htk:q.items.take (is.length+1)=is++[q.items[is.length]]:=by rw [List.take_succ_eq_append_getElem hlt, ← hE]
   generalize q.items[is.length]=x at hga hC htk
   obtain ⟨st,ql,e,als⟩:=x
   unfold CpE EE.v at hC
   unfold EItem.v at hga
   dsimp only at hga hC
   repeat' first |(refine kAlloc ?_ ;refine LOps.allocH tT_ok hh rfl rfl ?_ ;intro s n hh) |(refine kStore ?_ ;first |(refine LOps.storeH tT_ok 0 hh rfl rfl rfl rfl rfl rfl rfl rfl rfl ?_ ;intro s hh) |(refine LOps.storeH tT_ok 2 hh rfl rfl rfl rfl rfl rfl rfl rfl rfl ?_ ;intro s hh)) |(refine kBsl ?_ ;first |(refine LOps.ans (AnsL.bslE tT_ok rfl rfl rfl rfl rfl rfl rfl rfl ?_) ?_ ;(focus ((repeat' first |(exact ElsH.of rfl));done)))) |(refine kApp ?_ ;first |(refine' LOps.appW tT_ok 3 rfl rfl rfl rfl rfl rfl rfl rfl rfl rfl hh ?_ ?_ ?_ (AppB.ofW ?_ rfl) ?_ ;rotate_left 2 ;(focus (first |(intro x hx;obtain ⟨y,_,rfl⟩:=List.mem_map.1 hx;first | rfl | exact PE.cells_len _ | exact PE.planV_len _ | exact EE.cells_len _ | exact EE.queryV_len _))) ;(focus ((repeat' first |(exact ConsOL.nil) |(exact ConsO.scal rfl) |(refine' ConsO.op ?_;((repeat' first |(exact Pick.here) |(refine' Pick.there ?_));done)) |(refine' ConsOL.cons ?_ ?_) |(refine' ConsO.agg ?_));done)) ;(focus ((repeat' first |(exact Elems.of rfl));done)) ;(focus (first | omega |(simp ;omega))) ;intro s c n hh)) |(refine kCallN 27 ?_ ;refine LOps.outB rfl rfl ok27 hh (hC) ?_ ;intro s y hqO hh ;try dsimp only [List.cons_append,List.nil_append] at hh) |(refine kOps ?_;first |(refine LOps.nil ?_) |(refine LOps.ev tT_ok rfl ?_) |(refine kLoad ?_;first |(refine LOps.ans (AnsL.loadH tT_ok 0 hh rfl rfl rfl rfl) ?_) |(refine LOps.ans (AnsL.loadH tT_ok 2 hh rfl rfl rfl rfl) ?_) |(refine LOps.ans (AnsL.loadH tT_ok 3 hh rfl rfl rfl rfl) ?_) |(refine LOps.ans (AnsL.loadH tT_ok 4 hh rfl rfl rfl rfl) ?_)) |(refine kLen ?_;first |(refine LOps.ans (AnsL.lenM tT_ok rfl rfl rfl) ?_)) |(refine kBin ?_;first |(refine LOps.ans (AnsL.add rfl rfl ?_) ?_;(focus (constructor <;> omega)))) |(refine kIdx ?_;first |(refine LOps.ans (AnsL.idx tT_ok rfl rfl rfl rfl rfl hga rfl rfl) ?_))) |(refine kWL ?_;first |(refine WL.seq ?_) |(refine WL.region (by kernel_rfl) ?_) |(refine WL.block ?_) |(refine WL.skip ?_) |(refine kCond ?_;first |(refine WL.condT' rfl ?_ ?_;(focus (first |(simp <;> omega)))))) |(refine lthen_n ?_) |(refine lblock_n ?_)
   all_goals
     try simp only [PE.q_eq,List.length_append,List.length_map,List.length_cons,List.length_nil,Nat.zero_add,EItem.snoc] at hh
     refine' lbackH.of ((is++[ItemOf.mk st ql e als],_,_)) ?_ hh ?_ ?_ ?_
     rotate_left 3
     · dsimp only;(try simp only [List.map_append,List.map_cons,List.map_nil,PE.vS,List.length_append,List.length_map,List.length_cons,List.length_nil,Nat.zero_add]);(repeat' first |(exact Sel.nil) |(exact Sel.refl _) |(refine' Sel.p ?_ ?_;rotate_left 1;(focus (((repeat' first |(exact Pick.here) |(refine' Pick.there ?_));done)))));(all_goals (repeat' first |(exact Sel.refl _) |(refine Sel.drop ?_)));done
     · dsimp only;exact ⟨by simp;omega,by simp [htk]⟩
     · dsimp only;first | omega |(simp;omega) |(simp_all;omega)
     · repeat' first | exact SubL.nil |(refine SubL.mk rfl ?_ ?_) | rfl |(simp;done) |(simp;omega)
 have e0:is.length=q.items.length:=by omega
 rw [e0,List.take_length] at hE
 subst hE
 clear hge e0 hI hml
 repeat' first |(refine kOps ?_;first |(refine LOps.nil ?_) |(refine LOps.ev tT_ok rfl ?_) |(refine kLoad ?_;first |(refine LOps.ans (AnsL.loadH tT_ok 3 hh rfl rfl rfl rfl) ?_)) |(refine kLen ?_;first |(refine LOps.ans (AnsL.lenM tT_ok rfl rfl rfl) ?_))) |(refine kWL ?_;first |(refine WL.seq ?_) |(refine WL.region (by kernel_rfl) ?_) |(refine WL.block ?_) |(refine WL.exit ?_) |(refine kCond ?_;first |(refine WL.condF' rfl ?_ ?_;(focus (first |(simp <;> omega)))))) |(refine lthen_n ?_) |(refine lthen_e ?_) |(refine lblock_e ?_) |(refine lbackH_e ?_)
 replace hh:=hh.nil0
 refine WL.loopH (fun y:List ESrc × Nat × Nat=>q.src.length - y.1.length) (fun y=>[(1,.ptr nb 0),(2,.ptr n 0),(3,.ptr nq 0),(6,.int .i64 (y.1.length:Int))])
   (fun y => .own (.slm (.is y.2.1) y.2.2 0 y.1.length) (.sl 0 (y.1.map ESrc.v)) :: .cell nq [.bool q.distinct,.slm (.is c0) l0 0 q.items.length,.slm (.is y.2.1) y.2.2 0 y.1.length,.slm (.is c2) l2 0 q.wher.length,.slm (.is 0) 0 0 0,.int .i64 q.limit] :: .own (.slm (.is c0) l0 0 q.items.length) (.sl 0 (q.items.map EItem.v)) :: .own (.slm (.is c2) l2 0 q.wher.length) (.sl 0 (q.wher.map EE.toV)) :: .cell nb [.bool q.distinct,.sl 0 (q.items.map EItem.v),.sl 0 (q.src.map ESrc.v),.sl 0 (q.wher.map EE.toV),.sl 0 (q.order.map EE.sv),.int .i64 q.limit] :: .cell n [.bool false,.nilsl,.nilsl,.nilsl,.nilsl,.int .i64 0]::H)
   (fun y=>y.1.length≤q.src.length∧y.1=q.src.take y.1.length) ([],0,0) ⟨Nat.zero_le _,rfl⟩ ⟨rfl,rfl,rfl,rfl,trivial⟩ hh ?_ (fun y s hI hh=>?_)
 · try dsimp only
   (repeat' first |(exact Sel.nil) |(exact Sel.refl _) |(refine' Sel.p ?_ ?_;rotate_left 1;(focus (((repeat' first |(exact Pick.here) |(refine' Pick.there ?_));done)))))
   all_goals (repeat' first |(exact Sel.refl _) |(refine Sel.drop ?_))
 obtain ⟨ss,c1,l1⟩:=y
 obtain ⟨hI,hE⟩:=hI
 dsimp only at hI hE hh ⊢
 have hml:(q.src.map ESrc.v).length=q.src.length:=List.length_map ..
 rcases Nat.lt_or_ge ss.length q.src.length with hlt | hge
 · have hga : (q.src.map ESrc.v)[ss.length]? = some (ESrc.v q.src[ss.length]) := by simp [hlt]
   have hon:(q.src[ss.length]).on.length≤1000000:=by
     have h1:=EQ.wgt_src (List.getElem_mem hlt)
     have h2:=ESrc.wgt_eq q.src[ss.length]
     have h3:=wgt_len EE.toV q.src[ss.length].on
     omega
   have hK:=specl7Copies_c q.src[ss.length].on hon fun k hk=>ih k (QueryOf.mem_src (List.getElem_mem hlt) hk)
   have htk:q.src.take (ss.length+1)=ss++[q.src[ss.length]]:=by rw [List.take_succ_eq_append_getElem hlt, ← hE]
   generalize q.src[ss.length]=x at hga hK htk
   obtain ⟨tb,als,on⟩:=x
   unfold ESrc.v at hga
   dsimp only at hga hK
   repeat' first |(refine kStore ?_ ;first |(refine LOps.storeH tT_ok 1 hh rfl rfl rfl rfl rfl rfl rfl rfl rfl ?_ ;intro s hh)) |(refine kApp ?_ ;first |(refine' LOps.appW tT_ok 1 rfl rfl rfl rfl rfl rfl rfl rfl rfl rfl hh ?_ ?_ ?_ (AppB.of ?_ rfl) ?_ ;rotate_left 2 ;(focus (first |(intro x hx;obtain ⟨y,_,rfl⟩:=List.mem_map.1 hx;first | rfl | exact PE.cells_len _ | exact PE.planV_len _ | exact EE.cells_len _ | exact EE.queryV_len _))) ;(focus ((repeat' first |(exact ConsOL.nil) |(exact ConsO.scal rfl) |(refine' ConsO.op ?_;((repeat' first |(exact Pick.here) |(refine' Pick.there ?_));done)) |(refine' ConsOL.cons ?_ ?_) |(refine' ConsO.agg ?_));done)) ;(focus ((repeat' first |(exact Elems.of rfl));done)) ;(focus (first | omega |(simp ;omega))) ;intro s c n hh)) |(refine kCallN 50 ?_ ;refine LOps.outB rfl rfl ok50 hh (hK) ?_ ;intro s y hqO hh ;try dsimp only [List.cons_append,List.nil_append] at hh) |(refine kOps ?_;first |(refine LOps.nil ?_) |(refine LOps.ev tT_ok rfl ?_) |(refine kLoad ?_;first |(refine LOps.ans (AnsL.loadH tT_ok 4 hh rfl rfl rfl rfl) ?_)) |(refine kLen ?_;first |(refine LOps.ans (AnsL.lenM tT_ok rfl rfl rfl) ?_)) |(refine kBin ?_;first |(refine LOps.ans (AnsL.add rfl rfl ?_) ?_;(focus (constructor <;> omega))))) |(refine kWL ?_;first |(refine WL.seq ?_) |(refine WL.region (by kernel_rfl) ?_) |(refine WL.drawn (id:=11) [0,1,2,3,4,5,6,7,8,9,10,11,12,13,14,15,16,17,18,19,20,21,22,23,24,25] [20,23,25] [[],[0],[],[2],[],[2,3,4],[2,3,4,5],[2,3,4,5,6],[],[8],[],[8,9,10],[8,9,10,11],[8,9,10,11,12],[],[14],[],[14,15,16],[14,15,16,17],[14,15,16,17,18],[14,15,16,17,18,19],[2,3,4,5,6,7,8,9,10,11,12,13,14,15,16,17,18,19,20],[2,3,4,5,6,7,8,9,10,11,12,13,14,15,16,17,18,19,20,21],[0,1,2,3,4,5,6,7,8,9,10,11,12,13,14,15,16,17,18,19,20,21,22],[0,1,2,3,4,5,6,7,8,9,10,11,12,13,14,15,16,17,18,19,20,21,22,23],[0,1,2,3,4,5,6,7,8,9,10,11,12,13,14,15,16,17,18,19,20,21,22,23,24]] (by kernel_rfl) (by kernel_rfl) ?_) |(refine WL.block ?_) |(refine WL.skip ?_) |(refine kCond ?_;first |(refine WL.condT' rfl ?_ ?_;(focus (first |(simp <;> omega)))))) |(refine kDr ?_;first |(refine LDr.nil ?_) |(refine' LDr.fl (v := .agg _) rfl rfl (AnsL.buildZ tT_ok rfl rfl rfl rfl ?_) ?_;rotate_left 1;(focus ((repeat' first |(exact Fills.nil) |(refine' Fills.cons rfl rfl rfl rfl ?_));done))) |(refine LDr.fl rfl rfl (.ev tT_ok rfl) ?_) |(refine LDr.fl rfl rfl (AnsL.bslF tT_ok rfl rfl rfl rfl rfl rfl rfl rfl rfl) ?_) |(refine kDLoad rfl ?_;first |(refine LDr.fl rfl rfl (AnsL.loadH tT_ok 1 hh rfl rfl rfl rfl) ?_) |(refine LDr.fl rfl rfl (AnsL.loadH tT_ok 4 hh rfl rfl rfl rfl) ?_)) |(refine kDIdx rfl ?_;first |(refine LDr.fl rfl rfl (AnsL.idx tT_ok rfl rfl rfl rfl rfl hga rfl rfl) ?_)) |(refine LDr.eff rfl rfl rfl ?_)) |(refine lthen_n ?_) |(refine lblock_n ?_) |(refine And.intro ?_ ?_) |(exact StsL.nil) |(refine StsL.cons ?_ ?_) |(refine StL.fl rfl rfl (.ev tT_ok rfl)) |(refine StL.fl rfl rfl (AnsL.loadH tT_ok 2 hh rfl rfl rfl rfl)) |(refine StL.fl rfl rfl (AnsL.loadH tT_ok 5 hh rfl rfl rfl rfl)) |(refine StL.fl rfl rfl (AnsL.idx tT_ok rfl rfl rfl rfl rfl hga rfl rfl))
   all_goals
     try simp only [PE.q_eq,List.length_append,List.length_map,List.length_cons,List.length_nil,Nat.zero_add,ESrc.snoc] at hh
     refine' lbackH.of ((ss++[SrcOf.mk tb als on],_,_)) ?_ hh ?_ ?_ ?_
     rotate_left 3
     · dsimp only;(try simp only [List.map_append,List.map_cons,List.map_nil,PE.vS,List.length_append,List.length_map,List.length_cons,List.length_nil,Nat.zero_add]);(repeat' first |(exact Sel.nil) |(exact Sel.refl _) |(refine' Sel.p ?_ ?_;rotate_left 1;(focus (((repeat' first |(exact Pick.here) |(refine' Pick.there ?_));done)))));(all_goals (repeat' first |(exact Sel.refl _) |(refine Sel.drop ?_)));done
     · dsimp only;exact ⟨by simp;omega,by simp [htk]⟩
     · dsimp only;first | omega |(simp;omega) |(simp_all;omega)
     · repeat' first | exact SubL.nil |(refine SubL.mk rfl ?_ ?_) | rfl |(simp;done) |(simp;omega)
 have e0:ss.length=q.src.length:=by omega
 rw [e0,List.take_length] at hE
 subst hE
 clear hge e0 hI hml
 repeat' first |(refine kOps ?_;first |(refine LOps.nil ?_) |(refine LOps.ev tT_ok rfl ?_) |(refine kLoad ?_;first |(refine LOps.ans (AnsL.loadH tT_ok 4 hh rfl rfl rfl rfl) ?_)) |(refine kLen ?_;first |(refine LOps.ans (AnsL.lenM tT_ok rfl rfl rfl) ?_))) |(refine kWL ?_;first |(refine WL.seq ?_) |(refine WL.region (by kernel_rfl) ?_) |(refine WL.block ?_) |(refine WL.exit ?_) |(refine kCond ?_;first |(refine WL.condF' rfl ?_ ?_;(focus (first |(simp <;> omega)))))) |(refine lthen_n ?_) |(refine lthen_e ?_) |(refine lblock_e ?_) |(refine lbackH_e ?_)
 replace hh:=hh.nil0
 refine WL.loopH (fun y:List (EE × Bool) × Nat × Nat=>q.order.length - y.1.length) (fun y=>[(1,.ptr nb 0),(2,.ptr n 0),(3,.ptr nq 0),(7,.int .i64 (y.1.length:Int))])
   (fun y => .own (.slm (.is y.2.1) y.2.2 0 y.1.length) (.sl 0 (y.1.map EE.sv)) :: .cell nq [.bool q.distinct,.slm (.is c0) l0 0 q.items.length,.slm (.is c1) l1 0 q.src.length,.slm (.is c2) l2 0 q.wher.length,.slm (.is y.2.1) y.2.2 0 y.1.length,.int .i64 q.limit] :: .own (.slm (.is c0) l0 0 q.items.length) (.sl 0 (q.items.map EItem.v)) :: .own (.slm (.is c1) l1 0 q.src.length) (.sl 0 (q.src.map ESrc.v)) :: .own (.slm (.is c2) l2 0 q.wher.length) (.sl 0 (q.wher.map EE.toV)) :: .cell nb [.bool q.distinct,.sl 0 (q.items.map EItem.v),.sl 0 (q.src.map ESrc.v),.sl 0 (q.wher.map EE.toV),.sl 0 (q.order.map EE.sv),.int .i64 q.limit] :: .cell n [.bool false,.nilsl,.nilsl,.nilsl,.nilsl,.int .i64 0]::H)
   (fun y=>y.1.length≤q.order.length∧y.1=q.order.take y.1.length) ([],0,0) ⟨Nat.zero_le _,rfl⟩ ⟨rfl,rfl,rfl,rfl,trivial⟩ hh ?_ (fun y s hI hh=>?_)
 · try dsimp only
   (repeat' first |(exact Sel.nil) |(exact Sel.refl _) |(refine' Sel.p ?_ ?_;rotate_left 1;(focus (((repeat' first |(exact Pick.here) |(refine' Pick.there ?_));done)))))
   all_goals (repeat' first |(exact Sel.refl _) |(refine Sel.drop ?_))
 obtain ⟨rs,c3,l3⟩:=y
 obtain ⟨hI,hE⟩:=hI
 dsimp only at hI hE hh ⊢
 have hml:(q.order.map EE.sv).length=q.order.length:=List.length_map ..
 rcases Nat.lt_or_ge rs.length q.order.length with hlt | hge
 · have hga : (q.order.map EE.sv)[rs.length]? = some (EE.sv q.order[rs.length]) := by simp [hlt]
   have hC:=ih q.order[rs.length].1 (QueryOf.mem_order (List.getElem_mem hlt))
   have htk:q.order.take (rs.length+1)=rs++[q.order[rs.length]]:=by rw [List.take_succ_eq_append_getElem hlt, ← hE]
   generalize q.order[rs.length]=x at hga hC htk
   obtain ⟨e,ds⟩:=x
   unfold CpE EE.v at hC
   unfold EE.sv at hga
   dsimp only at hga hC
   repeat' first |(refine kStore ?_ ;first |(refine LOps.storeH tT_ok 1 hh rfl rfl rfl rfl rfl rfl rfl rfl rfl ?_ ;intro s hh)) |(refine kApp ?_ ;first |(refine' LOps.appW tT_ok 2 rfl rfl rfl rfl rfl rfl rfl rfl rfl rfl hh ?_ ?_ ?_ (AppB.ofW ?_ rfl) ?_ ;rotate_left 2 ;(focus (first |(intro x hx;obtain ⟨y,_,rfl⟩:=List.mem_map.1 hx;first | rfl | exact PE.cells_len _ | exact PE.planV_len _ | exact EE.cells_len _ | exact EE.queryV_len _))) ;(focus ((repeat' first |(exact ConsOL.nil) |(exact ConsO.scal rfl) |(refine' ConsO.op ?_;((repeat' first |(exact Pick.here) |(refine' Pick.there ?_));done)) |(refine' ConsOL.cons ?_ ?_) |(refine' ConsO.agg ?_));done)) ;(focus ((repeat' first |(exact Elems.of rfl));done)) ;(focus (first | omega |(simp ;omega))) ;intro s c n hh)) |(refine kCallN 27 ?_ ;refine LOps.outB rfl rfl ok27 hh (hC) ?_ ;intro s y hqO hh ;try dsimp only [List.cons_append,List.nil_append] at hh) |(refine kOps ?_;first |(refine LOps.nil ?_) |(refine LOps.ev tT_ok rfl ?_) |(refine kLoad ?_;first |(refine LOps.ans (AnsL.loadH tT_ok 5 hh rfl rfl rfl rfl) ?_)) |(refine kLen ?_;first |(refine LOps.ans (AnsL.lenM tT_ok rfl rfl rfl) ?_)) |(refine kBin ?_;first |(refine LOps.ans (AnsL.add rfl rfl ?_) ?_;(focus (constructor <;> omega))))) |(refine kWL ?_;first |(refine WL.seq ?_) |(refine WL.region (by kernel_rfl) ?_) |(refine WL.drawn (id:=15) [0,1,2,3,4,5,6,7,9,10,11,12,13,14,8,15,16,17,18,19] [8,17,19] [[],[0],[],[2],[],[2,3,4],[2,3,4,5],[2,3,4,5,6],[2,3,4,5,6,7],[],[9],[],[9,10,11],[9,10,11,12],[9,10,11,12,13],[2,3,4,5,6,7,8,9,10,11,12,13,14],[2,3,4,5,6,7,8,9,10,11,12,13,14,15],[0,1,2,3,4,5,6,7,8,9,10,11,12,13,14,15,16],[0,1,2,3,4,5,6,7,8,9,10,11,12,13,14,15,16,17],[0,1,2,3,4,5,6,7,8,9,10,11,12,13,14,15,16,17,18]] (by kernel_rfl) (by kernel_rfl) ?_) |(refine WL.block ?_) |(refine WL.skip ?_) |(refine kCond ?_;first |(refine WL.condT' rfl ?_ ?_;(focus (first |(simp <;> omega)))))) |(refine kDr ?_;first |(refine LDr.nil ?_) |(refine' LDr.fl (v := .agg _) rfl rfl (AnsL.buildZ tT_ok rfl rfl rfl rfl ?_) ?_;rotate_left 1;(focus ((repeat' first |(exact Fills.nil) |(refine' Fills.cons rfl rfl rfl rfl ?_));done))) |(refine LDr.fl rfl rfl (.ev tT_ok rfl) ?_) |(refine LDr.fl rfl rfl (AnsL.bslF tT_ok rfl rfl rfl rfl rfl rfl rfl rfl rfl) ?_) |(refine kDLoad rfl ?_;first |(refine LDr.fl rfl rfl (AnsL.loadH tT_ok 1 hh rfl rfl rfl rfl) ?_) |(refine LDr.fl rfl rfl (AnsL.loadH tT_ok 5 hh rfl rfl rfl rfl) ?_)) |(refine kDIdx rfl ?_;first |(refine LDr.fl rfl rfl (AnsL.idx tT_ok rfl rfl rfl rfl rfl hga rfl rfl) ?_)) |(refine LDr.eff rfl rfl rfl ?_)) |(refine lthen_n ?_) |(refine lblock_n ?_) |(refine And.intro ?_ ?_) |(exact StsL.nil) |(refine StsL.cons ?_ ?_) |(refine StL.fl rfl rfl (.ev tT_ok rfl)) |(refine StL.fl rfl rfl (AnsL.loadH tT_ok 3 hh rfl rfl rfl rfl)) |(refine StL.fl rfl rfl (AnsL.loadH tT_ok 7 hh rfl rfl rfl rfl)) |(refine StL.fl rfl rfl (AnsL.idx tT_ok rfl rfl rfl rfl rfl hga rfl rfl))
   all_goals
     try simp only [PE.q_eq,List.length_append,List.length_map,List.length_cons,List.length_nil,Nat.zero_add,EE.snocS] at hh
     refine' lbackH.of ((rs++[(e,ds)],_,_)) ?_ hh ?_ ?_ ?_
     rotate_left 3
     · dsimp only;(try simp only [List.map_append,List.map_cons,List.map_nil,PE.vS,List.length_append,List.length_map,List.length_cons,List.length_nil,Nat.zero_add]);(repeat' first |(exact Sel.nil) |(exact Sel.refl _) |(refine' Sel.p ?_ ?_;rotate_left 1;(focus (((repeat' first |(exact Pick.here) |(refine' Pick.there ?_));done)))));(all_goals (repeat' first |(exact Sel.refl _) |(refine Sel.drop ?_)));done
     · dsimp only;exact ⟨by simp;omega,by simp [htk]⟩
     · dsimp only;first | omega |(simp;omega) |(simp_all;omega)
     · repeat' first | exact SubL.nil |(refine SubL.mk rfl ?_ ?_) | rfl |(simp;done) |(simp;omega)
 have e0:rs.length=q.order.length:=by omega
 rw [e0,List.take_length] at hE
 subst hE
 repeat' first |(refine kStore ?_ ;first |(refine LOps.storeH tT_ok 6 hh rfl rfl rfl rfl rfl rfl rfl rfl rfl ?_ ;intro s hh)) |(refine kOps ?_;first |(refine LOps.nil ?_) |(refine LOps.ev tT_ok rfl ?_) |(refine kLoad ?_;first |(refine LOps.ans (AnsL.loadH tT_ok 1 hh rfl rfl rfl rfl) ?_) |(refine LOps.ans (AnsL.loadH tT_ok 5 hh rfl rfl rfl rfl) ?_)) |(refine kLen ?_;first |(refine LOps.ans (AnsL.lenM tT_ok rfl rfl rfl) ?_))) |(refine kWL ?_;first |(refine WL.seq ?_) |(refine WL.region (by kernel_rfl) ?_) |(refine WL.exit ?_) |(refine WL.ret ?_) |(refine kCond ?_;first |(refine WL.condF' rfl ?_ ?_;(focus (first |(simp <;> omega)))))) |(refine lthen_n ?_) |(refine lthen_e ?_) |(refine lblock_e ?_) |(refine lbackH_e ?_) |(refine' LPost.r1 (r := .cell 2 63) (.inl rfl) ?_ ?_;rotate_left 1;(focus (first |(exact Res1.cellH 6 tT_ok hh rfl rfl rfl rfl))))
 refine OutB.fin (y:=fun k=>match k with | 0=>(c0,l0) | 1=>(c1,l1) | 2=>(c2,l2) | _=>(c3,l3)) trivial rfl hh ?_
 dsimp only [EQ.ob,List.cons_append,List.nil_append]
 (repeat' first |(exact Sel.nil) |(exact Sel.refl _) |(refine' Sel.p ?_ ?_;rotate_left 1;(focus (((repeat' first |(exact Pick.here) |(refine' Pick.there ?_));done)))))
 all_goals (repeat' first |(exact Sel.refl _) |(refine Sel.drop ?_))
theorem specl7Copy_c (e:EE):wgt e.v≤1000000→CpE e:=by
 induction e using EE.ind with
 | h e ih1 ih2 =>
 intro hw s H hh
 have hkl:e.kids.length≤1000000∧e.sub.length≤1000000:=by
   have h1:=EE.wgt_eq e
   have h2:=wgt_len EE.toV e.kids
   have h3:=wgt_len EE.queryV e.sub
   omega
 have hK:=specl7Copies_c e.kids hkl.1 fun k hk=>ih1 k hk (Nat.le_trans (EE.wgt_kid hk) hw)
 have hQ:=fun q (hq:q∈e.sub)=>specl7CopyQuery_c q (Nat.le_trans (EE.wgt_sub hq) hw) fun k hk=>ih2 q hq k hk (Nat.le_trans (Nat.le_trans (EQ.wgt_part hk) (EE.wgt_sub hq)) hw)
 unfold EE.v
 refine LCalls.body0 Try.func27 rfl (by kernel_rfl) ?_
 repeat' first |(refine kBox ?_ ;first |(refine LOps.boxH hh rfl rfl ?_ ;intro s n hh)) |(refine kAlloc ?_ ;refine LOps.allocH tT_ok hh rfl rfl ?_ ;intro s n hh) |(refine kStore ?_ ;first |(refine LOps.storeH tT_ok 0 hh rfl rfl rfl rfl rfl rfl rfl rfl rfl ?_ ;intro s hh) |(refine LOps.storeH tT_ok 1 hh rfl rfl rfl rfl rfl rfl rfl rfl rfl ?_ ;intro s hh)) |(refine kCallN 50 ?_ ;refine LOps.outB rfl rfl ok50 hh (hK) ?_ ;intro s y hqO hh ;try dsimp only [List.cons_append,List.nil_append] at hh) |(refine kOps ?_;first |(refine LOps.nil ?_) |(refine LOps.ev tT_ok rfl ?_) |(refine kLoad ?_;first |(refine LOps.ans (AnsL.loadH tT_ok 1 hh rfl rfl rfl rfl) ?_) |(refine LOps.ans (AnsL.loadH tT_ok 2 hh rfl rfl rfl rfl) ?_))) |(refine kWL ?_;first |(refine WL.seq ?_) |(refine WL.region (by kernel_rfl) ?_) |(refine WL.block ?_)) |(refine lthen_n ?_)
 obtain ⟨c0,l0⟩:=y
 rename_i nb _ _ nr _ _ _ _ _ _ _ _ _
 refine WL.nilC 1 9 rfl rfl rfl hh (fun s hh=>?_)
 replace hh:=hh _ rfl _ rfl
 refine WL.loopH (fun y:List EQ × Nat × Nat=>e.sub.length - y.1.length) (fun y=>[(1,.ptr nb 0),(2,.ptr nr 0),(3,.ptr n 0),(4,.int .i64 (y.1.length:Int))])
   (fun y => .own (.slm (.is y.2.1) y.2.2 0 y.1.length) (.sl 0 (y.1.map EE.queryV)) :: .own (.slm (.is c0) l0 0 e.kids.length) (.sl 0 (e.kids.map EE.toV)) :: .cell n [.int .i64 e.kind,.int .i64 e.op,.bool e.nt,.int .i64 e.value.kind,.int .i64 e.value.num,.str e.value.text,.str e.qual,.str e.name,.slm (.is c0) l0 0 e.kids.length,.slm (.is y.2.1) y.2.2 0 y.1.length] ::
     .cell nr [.int .i64 0,.int .i64 0,.bool false,.int .i64 0,.int .i64 0,.str [],.str [],.str [],.nilsl,.nilsl] :: .cell nb [.int .i64 e.kind,.int .i64 e.op,.bool e.nt,.int .i64 e.value.kind,.int .i64 e.value.num,.str e.value.text,.str e.qual,.str e.name,.sl 0 (e.kids.map EE.toV),.sl 0 (e.sub.map EE.queryV)]::H)
   (fun y=>y.1.length≤e.sub.length∧y.1=e.sub.take y.1.length) ([],0,0) ⟨Nat.zero_le _,rfl⟩ ⟨rfl,rfl,rfl,rfl,trivial⟩ hh ?_ (fun y s hI hh=>?_)
 · try dsimp only
   (repeat' first |(exact Sel.nil) |(exact Sel.refl _) |(refine' Sel.p ?_ ?_;rotate_left 1;(focus (((repeat' first |(exact Pick.here) |(refine' Pick.there ?_));done)))))
   all_goals (repeat' first |(exact Sel.refl _) |(refine Sel.drop ?_))
 obtain ⟨qs,c1,l1⟩:=y
 obtain ⟨hI,hE⟩:=hI
 dsimp only at hI hE hh ⊢
 have hml:(e.sub.map EE.queryV).length=e.sub.length:=List.length_map ..
 rcases Nat.lt_or_ge qs.length e.sub.length with hlt | hge
 · have hga : (e.sub.map EE.queryV)[qs.length]? = some (EQ.v e.sub[qs.length]) := by rw [List.getElem?_map, List.getElem?_eq_getElem hlt]; simp only [Option.map_some, EE.queryV_eq]
   have hC:=hQ e.sub[qs.length] (List.getElem_mem hlt)
   have htk:e.sub.take (qs.length+1)=qs++[e.sub[qs.length]]:=by rw [List.take_succ_eq_append_getElem hlt, ← hE]
   generalize e.sub[qs.length]=x at hga hC htk
   unfold EQ.v at hC hga
   repeat' first |(refine kStore ?_ ;first |(refine LOps.storeH tT_ok 2 hh rfl rfl rfl rfl rfl rfl rfl rfl rfl ?_ ;intro s hh)) |(refine kApp ?_ ;first |(refine' LOps.appW tT_ok 4 rfl rfl rfl rfl rfl rfl rfl rfl rfl rfl hh ?_ ?_ ?_ (AppB.of ?_ rfl) ?_ ;rotate_left 2 ;(focus (first |(intro x hx;obtain ⟨y,_,rfl⟩:=List.mem_map.1 hx;first | rfl | exact PE.cells_len _ | exact PE.planV_len _ | exact EE.cells_len _ | exact EE.queryV_len _))) ;(focus ((repeat' first |(exact ConsOL.nil) |(exact ConsO.scal rfl) |(refine' ConsO.op ?_;((repeat' first |(exact Pick.here) |(refine' Pick.there ?_));done)) |(refine' ConsOL.cons ?_ ?_) |(refine' ConsO.agg ?_));done)) ;(focus ((repeat' first |(exact Elems.of rfl));done)) ;(focus (first | omega |(simp ;omega))) ;intro s c n hh)) |(refine kCallN 51 ?_ ;refine LOps.outB rfl rfl ok51 hh (hC) ?_ ;intro s y hqO hh ;try dsimp only [List.cons_append,List.nil_append] at hh) |(refine kOps ?_;first |(refine LOps.nil ?_) |(refine LOps.ev tT_ok rfl ?_) |(refine kLoad ?_;first |(refine LOps.ans (AnsL.loadH tT_ok 4 hh rfl rfl rfl rfl) ?_)) |(refine kLen ?_;first |(refine LOps.ans (AnsL.lenM tT_ok rfl rfl rfl) ?_)) |(refine kBin ?_;first |(refine LOps.ans (AnsL.add rfl rfl ?_) ?_;(focus (constructor <;> omega))))) |(refine kWL ?_;first |(refine WL.seq ?_) |(refine WL.region (by kernel_rfl) ?_) |(refine WL.drawn (id:=7) [0,1,2,3,4,5,6,7,8,9,10,11] [7,9,11] [[],[0],[],[2],[],[2,3,4],[2,3,4,5],[2,3,4,5,6],[2,3,4,5,6,7],[0,1,2,3,4,5,6,7,8],[0,1,2,3,4,5,6,7,8,9],[0,1,2,3,4,5,6,7,8,9,10]] (by kernel_rfl) (by kernel_rfl) ?_) |(refine WL.block ?_) |(refine WL.skip ?_) |(refine kCond ?_;first |(refine WL.condT' rfl ?_ ?_;(focus (first |(simp <;> omega)))))) |(refine kDr ?_;first |(refine LDr.nil ?_) |(refine LDr.fl rfl rfl (.ev tT_ok rfl) ?_) |(refine LDr.fl rfl rfl (AnsL.bslF tT_ok rfl rfl rfl rfl rfl rfl rfl rfl rfl) ?_) |(refine kDLoad rfl ?_;first |(refine LDr.fl rfl rfl (AnsL.loadH tT_ok 2 hh rfl rfl rfl rfl) ?_) |(refine LDr.fl rfl rfl (AnsL.loadH tT_ok 4 hh rfl rfl rfl rfl) ?_)) |(refine kDIdx rfl ?_;first |(refine LDr.fl rfl rfl (AnsL.idx tT_ok rfl rfl rfl rfl rfl hga rfl rfl) ?_)) |(refine LDr.eff rfl rfl rfl ?_)) |(refine lthen_n ?_) |(refine lblock_n ?_) |(refine And.intro ?_ ?_) |(exact StsL.nil) |(refine StsL.cons ?_ ?_) |(refine StL.fl rfl rfl (.ev tT_ok rfl)) |(refine StL.fl rfl rfl (AnsL.loadH tT_ok 6 hh rfl rfl rfl rfl))
   all_goals
     try simp only [PE.q_eq,List.length_append,List.length_map,List.length_cons,List.length_nil,Nat.zero_add,EQ.snocQ] at hh
     refine' lbackH.of ((qs++[x],_,_)) ?_ hh ?_ ?_ ?_
     rotate_left 3
     · dsimp only;(try simp only [List.map_append,List.map_cons,List.map_nil,PE.vS,List.length_append,List.length_map,List.length_cons,List.length_nil,Nat.zero_add]);(repeat' first |(exact Sel.nil) |(exact Sel.refl _) |(refine' Sel.p ?_ ?_;rotate_left 1;(focus (((repeat' first |(exact Pick.here) |(refine' Pick.there ?_));done)))));(all_goals (repeat' first |(exact Sel.refl _) |(refine Sel.drop ?_)));done
     · dsimp only;exact ⟨by simp;omega,by simp [htk]⟩
     · dsimp only;first | omega |(simp;omega) |(simp_all;omega)
     · repeat' first | exact SubL.nil |(refine SubL.mk rfl ?_ ?_) | rfl |(simp;done) |(simp;omega)
 have e0:qs.length=e.sub.length:=by omega
 rw [e0,List.take_length] at hE
 subst hE
 repeat' first |(refine kStore ?_ ;first |(refine LOps.storeH tT_ok 3 hh rfl rfl rfl rfl rfl rfl rfl rfl rfl ?_ ;intro s hh)) |(refine kOps ?_;first |(refine LOps.nil ?_) |(refine LOps.ev tT_ok rfl ?_) |(refine kLoad ?_;first |(refine LOps.ans (AnsL.loadH tT_ok 2 hh rfl rfl rfl rfl) ?_) |(refine LOps.ans (AnsL.loadH tT_ok 4 hh rfl rfl rfl rfl) ?_)) |(refine kLen ?_;first |(refine LOps.ans (AnsL.lenM tT_ok rfl rfl rfl) ?_))) |(refine kWL ?_;first |(refine WL.seq ?_) |(refine WL.region (by kernel_rfl) ?_) |(refine WL.exit ?_) |(refine WL.ret ?_) |(refine kCond ?_;first |(refine WL.condF' rfl ?_ ?_;(focus (first |(simp <;> omega)))))) |(refine lthen_n ?_) |(refine lthen_e ?_) |(refine lblock_e ?_) |(refine lbackH_e ?_) |(refine' LPost.r1 (r := .cell 2 37) (.inl rfl) ?_ ?_;rotate_left 1;(focus (first |(exact Res1.cellH 3 tT_ok hh rfl rfl rfl rfl))))
 refine OutB.fin (y:=f2 (c0,l0) (c1,l1)) trivial rfl hh ?_
 dsimp only [EE.ob,f2,List.cons_append,List.nil_append]
 (repeat' first |(exact Sel.nil) |(exact Sel.refl _) |(refine' Sel.p ?_ ?_;rotate_left 1;(focus (((repeat' first |(exact Pick.here) |(refine' Pick.there ?_));done)))))
 all_goals (repeat' first |(exact Sel.refl _) |(refine Sel.drop ?_))
end Go.Proofs.Ytikghanejpigjaa
