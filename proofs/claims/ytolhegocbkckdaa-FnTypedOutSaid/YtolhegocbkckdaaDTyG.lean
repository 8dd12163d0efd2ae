/-
 The types of plans, of the program. Own work; no condition.
-/
import Derived.Test.YtolhegocbkckdaaDTyE
namespace Go.Proofs.Ytolhegocbkckdaa
open Go
set_option linter.unusedSimpArgs false
set_option linter.unusedVariables false
set_option maxHeartbeats 2000000 in
theorem implPlanTypes_r (c:Cat) (p:PL) (hc:c.wt≤1048576) (hw:wgt p.v≤1048576) (ih:∀ k∈p.parts,TyC Try.prog 26 c k):PlC Try.prog 64 c p:=by
 intro env hb hr s
 rw [PE.tyP_eq]
 have hpw:∀ k∈p.parts,1+wgt k.v≤wgt p.v:=fun k hk=>by
   obtain ⟨i,hi,rfl⟩:=List.getElem_of_mem hk
   exact Nat.le_trans (sumW_mem (f:=fun k=>1+wgt (PE.v k)) hi) (PL.parts_w p)
 have hon1:=PL.on_le p
 have hpl:=PL.parts_len p
 have htl0:p.tables.length≤1048576:=by
   have e:=PL.wgt_eq p
   have:=wgt_len iV p.tables
   omega
 have hR0:=fun t=>implRowTypes_v c p.tables hc htl0 t
 cases hall:p.tables.all (rowIn c)
 · have e0:rowTy c p.tables=([],false):=by simp [rowTy,hall]
   have hok:p.ok c=false:=by simp [PL.ok,hall]
   rw [e0] at hR0
   rw [hok]
   simp only [Bool.false_eq_true,if_false]
   refine LCalls.pure Try.func64 rfl (by kernel_rfl) (by simp) ?_
   repeat' first |(refine kOps ?_;first |(refine LOps.nil ?_) |(refine kG ?_;first |(refine LOps.gF rfl rfl rfl ?_)) |(refine LOps.ev tT_ok rfl ?_) |(refine kBox ?_;refine LOps.box rfl rfl rfl rfl ?_) |(refine kLoad ?_;first |(refine LOps.ans (AnsL.loadP tT_ok rfl rfl rfl rfl) ?_)) |(refine kCallN 104 ?_;first |(refine LOps.ans (AnsL.callP rfl rfl rfl (ok104) (hR0 _)) ?_))) |(refine kWL ?_;first |(refine WL.seq ?_) |(refine WL.region (by kernel_rfl) ?_) |(refine WL.ret ?_) |(refine kCond ?_;first |(refine WL.condT rfl ?_))) |(refine lthen_n ?_) |(refine lthen_r ?_) |(refine LPost.r2 (r := .tmp 6) (r' := .tmp 7) (.inl rfl) (Res1.tmp rfl) (Res1.tmp rfl) ?_) |(refine PureR.mk ?_)
   rfl
 have e0:rowTy c p.tables=(rowsOf c p.tables,true):=by simp [rowTy,hall]
 rw [e0] at hR0
 have hF:=fun t=>implhasPlanForm_v p hw t
 cases hform:p.form <;> rw [hform] at hF
 · have hok:p.ok c=false:=by simp [PL.ok,hform]
   rw [hok]
   simp only [Bool.false_eq_true,if_false]
   refine LCalls.pure Try.func64 rfl (by kernel_rfl) (by simp) ?_
   repeat' first |(refine kOps ?_;first |(refine LOps.nil ?_) |(refine kG ?_;first |(refine LOps.gT rfl rfl rfl ?_)) |(refine LOps.ev tT_ok rfl ?_) |(refine kBox ?_;refine LOps.box rfl rfl rfl rfl ?_) |(refine kLoad ?_;first |(refine LOps.ans (AnsL.loadP tT_ok rfl rfl rfl rfl) ?_)) |(refine kCallN 104 ?_;first |(refine LOps.ans (AnsL.callP rfl rfl rfl (ok104) (hR0 _)) ?_)) |(refine kCallN 105 ?_;first |(refine LOps.ans (AnsL.callP rfl rfl rfl (ok105) (hF _)) ?_))) |(refine kWL ?_;first |(refine WL.seq ?_) |(refine WL.region (by kernel_rfl) ?_) |(refine WL.ret ?_) |(refine kCond ?_;first |(refine WL.condT rfl ?_))) |(refine lthen_n ?_) |(refine lthen_r ?_) |(refine LPost.r2 (r := .tmp 6) (r' := .tmp 7) (.inl rfl) (Res1.tmp rfl) (Res1.tmp rfl) ?_) |(refine PureR.mk ?_)
   rfl
 have hok:p.ok c=true:=by simp [PL.ok,hform,hall]
 rw [hok]
 simp only [if_true]
 simp only [PL.form,Bool.and_eq_true,decide_eq_true_eq] at hform
 obtain ⟨⟨f1,f2,f3,f4,f5,f6,f7,f8,f9,f10⟩,f11,f12⟩:=hform
 have hrow:∀ ts,(∀ k∈ts,k∈p.tables)→ts.length≤3→rowTy c ts=(rowsOf c ts,true)∧(rowsOf c ts).length≤3145728:=fun ts h1 h2=>by
   refine ⟨?_,?_⟩
   · have:ts.all (rowIn c)=true:=by
       rw [List.all_eq_true] at hall ⊢
       exact fun k hk=>hall k (h1 k hk)
     simp only [rowTy,this,if_true]
   · have:=rowsOf_len c hc ts
     omega
 obtain ⟨_,l0⟩:=hrow p.tables (fun _ h=>h) f2
 generalize rowsOf c p.tables=R0 at hR0 l0 ⊢
 refine LCalls.pure Try.func64 rfl (by kernel_rfl) (by simp) ?_
 repeat' first |(refine kOps ?_;first |(refine LOps.nil ?_) |(refine kG ?_;first |(refine LOps.gT rfl rfl rfl ?_)) |(refine LOps.ev tT_ok rfl ?_) |(refine kBox ?_;refine LOps.box rfl rfl rfl rfl ?_) |(refine kLoad ?_;first |(refine LOps.ans (AnsL.loadP tT_ok rfl rfl rfl rfl) ?_)) |(refine kLen ?_;first |(refine LOps.ans (AnsL.lenM tT_ok rfl rfl rfl) ?_)) |(refine kCallN 104 ?_;first |(refine LOps.ans (AnsL.callP rfl rfl rfl (ok104) (hR0 _)) ?_)) |(refine kCallN 105 ?_;first |(refine LOps.ans (AnsL.callP rfl rfl rfl (ok105) (hF _)) ?_))) |(refine kWL ?_;first |(refine WL.seq ?_) |(refine WL.region (by kernel_rfl) ?_) |(refine WL.block ?_) |(refine WL.skip ?_) |(refine kCond ?_;first |(refine WL.condF rfl ?_))) |(refine lthen_n ?_)
 refine WL.loopD (fun i:Nat=>p.on.length - i) (fun i=>[(1,envV env),(3,.ptr (s.next+0) 0),(5,.ptr (s.next+1) 0),(8,ints R0),(39,.sl 0 (p.on.map PE.vS)),(40,.int .i64 p.on.length),(41,.int .i64 (i:Int))]) (fun i=>[.var [.sl 0 (c.tables.map Tab.toV)],.var p.v.cells])
   (fun i=>i≤p.on.length∧PE.tyOn c env p.tables 1 p.on=PE.tyOn c env p.tables (1+i) (p.on.drop i)) 2 0 ⟨by simp,by simp⟩ (fun _=>rfl) ⟨rfl,rfl,rfl,rfl,rfl,rfl,rfl,trivial⟩ rfl (fun i hi=>?_) (fun i hi=>?_)
 · simp [UnderK,UnderX,Own.under,V.under,V.underL,PL.v,V.cells,envV,ints]
 obtain ⟨hi,hc1⟩:=hi
 rcases Nat.lt_or_ge i p.on.length with hlt | hge
 · have hga:(p.on.map PE.vS)[i]?=some (PE.vS p.on[i]):=by rw [List.getElem?_map,List.getElem?_eq_getElem hlt];rfl
   rw [List.drop_eq_getElem_cons hlt,PE.tyOn] at hc1
   have hmem:∀ k∈p.on[i],k∈p.parts:=fun k hk=>PlanOf.mem_on (List.getElem_mem hlt) hk
   have hsl:i+1≤(p.tables.map iV).length:=by rw [List.length_map];omega
   obtain ⟨e1,l1⟩:=hrow (p.tables.take (i+1)) (fun _ h=>List.mem_of_mem_take h) (by rw [List.length_take];omega)
   rw [Nat.add_comm i 1] at e1 l1
   have hR1:∀ t,VCalls Try.prog 104 [c.toV,.sl 0 ((p.tables.map iV).take (i+1))] t (fun v t'=>v=rowV (rowsOf c (p.tables.take (1+i)),true)∧t'=t):=fun t=>by
     rw [← List.map_take,Nat.add_comm i 1]
     have:=implRowTypes_v c (p.tables.take (1+i)) hc (by rw [List.length_take];omega) t
     rw [e1] at this
     exact this
   have hol:=on_len2 hlt
   generalize rowsOf c (p.tables.take (1+i))=R at hc1 hR1 l1
   have hX:=fun t=>implinFront_v R env (by omega) t
   have hG:=fun t=>implareTruthy_r c p.on[i] (R::env) (by omega) (fun k hk=>by have:=hpw k (hmem k hk);simp only [List.length_cons];omega) (hr.cons (by omega)) (fun k hk=>ih k (hmem k hk)) t
   generalize p.on[i]=l at hga hc1 hG
   cases hb1:PE.tyT c (R::env) l <;> rw [hb1] at hG hc1
   · rw [Bool.false_and] at hc1
     simp only [hc1,Bool.false_eq_true,if_false]
     repeat' first |(refine kOps ?_;first |(refine LOps.nil ?_) |(refine LOps.ev tT_ok rfl ?_) |(refine kIdx ?_;first |(refine LOps.ans (AnsL.idx tT_ok rfl rfl rfl rfl rfl hga rfl rfl) ?_))) |(refine kWL ?_;first |(refine WL.seq ?_) |(refine WL.region (by kernel_rfl) ?_) |(refine WL.drawn (id:=7) [0,1,2,3,4,5,6,7,8,9,10,11] [] [[],[],[1],[],[3],[1,2,3,4],[0,1,2,3,4,5],[0,1,2,3,4,5,6],[0,1,2,3,4,5,6,7],[0,1,2,3,4,5,6,7],[0,1,2,3,4,5,6,7,8],[0,1,2,3,4,5,6,7,8,9,10]] (by kernel_rfl) (by kernel_rfl) ?_) |(refine WL.drawn (id:=8) [0,1,2,3,4,5,6] [] [[],[],[],[1,2],[],[0,1,2,3,4],[0,1,2,3,4,5]] (by kernel_rfl) (by kernel_rfl) ?_) |(refine WL.block ?_) |(refine WL.skip ?_) |(refine WL.ret ?_) |(refine kCond ?_;first |(refine WL.condT rfl ?_) |(refine WL.condT' rfl ?_ ?_;(focus (first |(simp <;> omega)))))) |(refine kDr ?_;first |(refine LDr.nil ?_) |(refine LDr.fl rfl rfl (.ev tT_ok rfl) ?_) |(refine kDLoad rfl ?_;first |(refine LDr.fl rfl rfl (AnsL.loadP tT_ok rfl rfl rfl rfl) ?_)) |(refine kDBin rfl ?_;first |(refine LDr.fl rfl rfl (AnsL.add rfl rfl ?_) ?_;(focus (constructor <;> omega)))) |(refine kDSlc rfl ?_;first |(refine LDr.fl rfl rfl (AnsL.slcT (n:=i+1) tT_ok rfl rfl rfl rfl rfl hsl) ?_)) |(refine kDCallN 104 rfl ?_;first |(refine LDr.fl rfl rfl (AnsL.callP rfl rfl rfl (ok104) (hR1 _)) ?_)) |(refine kDCallN 106 rfl ?_;first |(refine LDr.fl rfl rfl (AnsL.callP rfl rfl rfl (ok106) (hG _)) ?_)) |(refine kDCallN 107 rfl ?_;first |(refine LDr.fl rfl rfl (AnsL.callP rfl rfl rfl (ok107) (hX _)) ?_))) |(refine lthen_n ?_) |(refine lthen_r ?_) |(refine lblock_r ?_) |(refine lbackD_r ?_) |(refine LPost.r2 (r := .tmp 6) (r' := .tmp 7) (.inl rfl) (Res1.tmp rfl) (Res1.tmp rfl) ?_) |(refine PureR.mk ?_)
     rfl
   · rw [Bool.true_and] at hc1
     repeat' first |(refine kOps ?_;first |(refine LOps.nil ?_) |(refine LOps.ev tT_ok rfl ?_) |(refine kBin ?_;first |(refine LOps.ans (AnsL.add rfl rfl ?_) ?_;(focus (constructor <;> omega)))) |(refine kIdx ?_;first |(refine LOps.ans (AnsL.idx tT_ok rfl rfl rfl rfl rfl hga rfl rfl) ?_))) |(refine kWL ?_;first |(refine WL.seq ?_) |(refine WL.region (by kernel_rfl) ?_) |(refine WL.drawn (id:=7) [0,1,2,3,4,5,6,7,8,9,10,11] [] [[],[],[1],[],[3],[1,2,3,4],[0,1,2,3,4,5],[0,1,2,3,4,5,6],[0,1,2,3,4,5,6,7],[0,1,2,3,4,5,6,7],[0,1,2,3,4,5,6,7,8],[0,1,2,3,4,5,6,7,8,9,10]] (by kernel_rfl) (by kernel_rfl) ?_) |(refine WL.drawn (id:=8) [0,1,2,3,4,5,6] [] [[],[],[],[1,2],[],[0,1,2,3,4],[0,1,2,3,4,5]] (by kernel_rfl) (by kernel_rfl) ?_) |(refine WL.block ?_) |(refine WL.skip ?_) |(refine kCond ?_;first |(refine WL.condF rfl ?_) |(refine WL.condT' rfl ?_ ?_;(focus (first |(simp <;> omega)))))) |(refine kDr ?_;first |(refine LDr.nil ?_) |(refine LDr.fl rfl rfl (.ev tT_ok rfl) ?_) |(refine kDLoad rfl ?_;first |(refine LDr.fl rfl rfl (AnsL.loadP tT_ok rfl rfl rfl rfl) ?_)) |(refine kDBin rfl ?_;first |(refine LDr.fl rfl rfl (AnsL.add rfl rfl ?_) ?_;(focus (constructor <;> omega)))) |(refine kDSlc rfl ?_;first |(refine LDr.fl rfl rfl (AnsL.slcT (n:=i+1) tT_ok rfl rfl rfl rfl rfl hsl) ?_)) |(refine kDCallN 104 rfl ?_;first |(refine LDr.fl rfl rfl (AnsL.callP rfl rfl rfl (ok104) (hR1 _)) ?_)) |(refine kDCallN 106 rfl ?_;first |(refine LDr.fl rfl rfl (AnsL.callP rfl rfl rfl (ok106) (hG _)) ?_)) |(refine kDCallN 107 rfl ?_;first |(refine LDr.fl rfl rfl (AnsL.callP rfl rfl rfl (ok107) (hX _)) ?_))) |(refine lthen_n ?_) |(refine lblock_n ?_)
     all_goals
       refine lbackD.of (i+1) ?_ ?_ ?_ ?_
       · first | omega |(refine ⟨?_,?_⟩;(focus (first | omega |(simp;omega)));(first | omega |(simp_all [hc1] <;> fail) |(simp_all [hc1];omega))) |(simp_all [hc1] <;> fail) |(simp_all [hc1];omega)
       · first | omega |(simp;omega) | simp_all
       · repeat' first
           | exact SubL.nil
           |(refine SubL.mk rfl ?_ ?_)
           | rfl
           |(simp [hc1] <;> fail)
           |(simp [hc1];omega)
       · first | rfl |(simp [hc1] <;> fail) |(simp [hc1];omega)
 rw [List.drop_of_length_le hge,PE.tyOn] at hc1
 simp only [hc1,if_true]
 have hX:=fun t=>implinFront_v R0 env (by omega) t
 have hr1:RowsOk (R0::env):=hr.cons (by omega)
 have hb1:∀ k∈p.parts,(R0::env).length+wgt k.v≤8388608:=fun k hk=>by have:=hpw k hk;simp only [List.length_cons];omega
 have hG:=fun t=>implareTruthy_r c p.wher (R0::env) (by omega) (fun k hk=>hb1 k (PlanOf.mem_wher hk)) hr1 (fun k hk=>ih k (PlanOf.mem_wher hk)) t
 generalize hen:R0::env=env1 at hX hG hr1 hb1 ⊢
 cases hb2:PE.tyT c env1 p.wher <;> rw [hb2] at hG
 · simp only [Bool.false_eq_true,if_false]
   repeat' first |(refine kOps ?_;first |(refine LOps.nil ?_) |(refine LOps.ev tT_ok rfl ?_) |(refine kLoad ?_;first |(refine LOps.ans (AnsL.loadP tT_ok rfl rfl rfl rfl) ?_)) |(refine kCallN 106 ?_;first |(refine LOps.ans (AnsL.callP rfl rfl rfl (ok106) (hG _)) ?_)) |(refine kCallN 107 ?_;first |(refine LOps.ans (AnsL.callP rfl rfl rfl (ok107) (hX _)) ?_))) |(refine kWL ?_;first |(refine WL.seq ?_) |(refine WL.region (by kernel_rfl) ?_) |(refine WL.exit ?_) |(refine WL.ret ?_) |(refine kCond ?_;first |(refine WL.condT rfl ?_) |(refine WL.condF' rfl ?_ ?_;(focus (first |(simp <;> omega)))))) |(refine lthen_n ?_) |(refine lthen_r ?_) |(refine lthen_e ?_) |(refine lblock_e ?_) |(refine lbackD_e ?_) |(refine LPost.r2 (r := .tmp 6) (r' := .tmp 7) (.inl rfl) (Res1.tmp rfl) (Res1.tmp rfl) ?_) |(refine PureR.mk ?_)
   rfl
 simp only [if_true]
 repeat' first |(refine kOps ?_;first |(refine LOps.nil ?_) |(refine LOps.ev tT_ok rfl ?_) |(refine kLoad ?_;first |(refine LOps.ans (AnsL.loadP tT_ok rfl rfl rfl rfl) ?_)) |(refine kLen ?_;first |(refine LOps.ans (AnsL.lenM tT_ok rfl rfl rfl) ?_)) |(refine kCallN 106 ?_;first |(refine LOps.ans (AnsL.callP rfl rfl rfl (ok106) (hG _)) ?_)) |(refine kCallN 107 ?_;first |(refine LOps.ans (AnsL.callP rfl rfl rfl (ok107) (hX _)) ?_))) |(refine kWL ?_;first |(refine WL.seq ?_) |(refine WL.region (by kernel_rfl) ?_) |(refine WL.block ?_) |(refine WL.exit ?_) |(refine WL.skip ?_) |(refine kCond ?_;first |(refine WL.condF rfl ?_) |(refine WL.condF' rfl ?_ ?_;(focus (first |(simp <;> omega)))))) |(refine lthen_n ?_) |(refine lthen_e ?_) |(refine lblock_e ?_) |(refine lbackD_e ?_)
 refine WL.loopD (fun i:Nat=>p.order.length - i) (fun i=>[(14,envV env1),(3,.ptr (s.next+0) 0),(5,.ptr (s.next+1) 0),(74,.sl 0 (p.order.map PE.sv)),(75,.int .i64 p.order.length),(76,.int .i64 (i:Int))]) (fun i=>[.var [.sl 0 (c.tables.map Tab.toV)],.var p.v.cells])
   (fun i=>i≤p.order.length∧(p.order.take i).all (isT c env1)=true) 2 0 ⟨by simp,by simp⟩ (fun _=>rfl) ⟨rfl,rfl,rfl,rfl,rfl,rfl,trivial⟩ rfl (fun i hi=>?_) (fun i hi=>?_)
 · simp [UnderK,UnderX,Own.under,V.under,V.underL,PL.v,V.cells,envV,ints]
 obtain ⟨hi,ha⟩:=hi
 rcases Nat.lt_or_ge i p.order.length with hlt | hge
 · have hga:(p.order.map PE.sv)[i]?=some (PE.sv p.order[i]):=by rw [List.getElem?_map,List.getElem?_eq_getElem hlt];rfl
   have hmem:p.order[i].1∈p.parts:=PlanOf.mem_order (List.getElem_mem hlt)
   have hE:=ih _ hmem env1 (hb1 _ hmem) hr1
   have hst:=all_take (p:=isT c env1) hlt
   rw [ha,Bool.true_and] at hst
   have hno:=all_no (p:=isT c env1) hlt
   generalize p.order[i]=x at hga hE hst hno
   cases ho:PE.ty c env1 x.1 with
   | none =>
     rw [ho] at hE
     have hn2:PE.tyO c env1 p.order=false:=by rw [tyO_all2];exact hno (by simp only [isT,ho];rfl)
     simp only [hn2,Bool.false_eq_true,if_false]
     repeat' first |(refine kOps ?_;first |(refine LOps.nil ?_) |(refine kStore ?_;refine LOps.storeP tT_ok rfl rfl rfl rfl rfl rfl rfl rfl rfl ?_) |(refine LOps.ev tT_ok rfl ?_) |(refine kAlloc ?_;refine LOps.alloc tT_ok rfl rfl rfl rfl ?_) |(refine kLoad ?_;first |(refine LOps.ans (AnsL.loadP tT_ok rfl rfl rfl rfl) ?_)) |(refine kIdx ?_;first |(refine LOps.ans (AnsL.idx tT_ok rfl rfl rfl rfl rfl hga rfl rfl) ?_)) |(refine kCallN 26 ?_;first |(refine LOps.ans (AnsL.callP rfl rfl rfl (ok26) (hE _)) ?_))) |(refine kWL ?_;first |(refine WL.seq ?_) |(refine WL.region (by kernel_rfl) ?_) |(refine WL.block ?_) |(refine WL.skip ?_) |(refine WL.ret ?_) |(refine kCond ?_;first |(refine WL.condT rfl ?_) |(refine WL.condT' rfl ?_ ?_;(focus (first |(simp <;> omega)))))) |(refine lthen_n ?_) |(refine lthen_r ?_) |(refine lblock_r ?_) |(refine lbackD_r ?_) |(refine LPost.r2 (r := .tmp 6) (r' := .tmp 7) (.inl rfl) (Res1.tmp rfl) (Res1.tmp rfl) ?_) |(refine PureR.mk ?_)
     rfl
   | some t =>
     rw [ho] at hE
     have hs:isT c env1 x=true:=by simp only [isT,ho];rfl
     rw [hs] at hst
     repeat' first |(refine kOps ?_;first |(refine LOps.nil ?_) |(refine kStore ?_;refine LOps.storeP tT_ok rfl rfl rfl rfl rfl rfl rfl rfl rfl ?_) |(refine LOps.ev tT_ok rfl ?_) |(refine kAlloc ?_;refine LOps.alloc tT_ok rfl rfl rfl rfl ?_) |(refine kLoad ?_;first |(refine LOps.ans (AnsL.loadP tT_ok rfl rfl rfl rfl) ?_)) |(refine kBin ?_;first |(refine LOps.ans (AnsL.add rfl rfl ?_) ?_;(focus (constructor <;> omega)))) |(refine kIdx ?_;first |(refine LOps.ans (AnsL.idx tT_ok rfl rfl rfl rfl rfl hga rfl rfl) ?_)) |(refine kCallN 26 ?_;first |(refine LOps.ans (AnsL.callP rfl rfl rfl (ok26) (hE _)) ?_))) |(refine kWL ?_;first |(refine WL.seq ?_) |(refine WL.region (by kernel_rfl) ?_) |(refine WL.block ?_) |(refine WL.skip ?_) |(refine kCond ?_;first |(refine WL.condF rfl ?_) |(refine WL.condT' rfl ?_ ?_;(focus (first |(simp <;> omega)))))) |(refine lthen_n ?_) |(refine lblock_n ?_)
     all_goals
       refine lbackD.of (i+1) ?_ ?_ ?_ ?_
       · first | omega |(refine ⟨?_,?_⟩;(focus (first | omega |(simp;omega)));(first | omega |(simp_all [hst] <;> fail) |(simp_all [hst];omega))) |(simp_all [hst] <;> fail) |(simp_all [hst];omega)
       · first | omega |(simp;omega) | simp_all
       · repeat' first
           | exact SubL.nil
           |(refine SubL.mk rfl ?_ ?_)
           | rfl
           |(simp [hst] <;> fail)
           |(simp [hst];omega)
       · first | rfl |(simp [hst] <;> fail) |(simp [hst];omega)
 rw [List.take_of_length_le hge] at ha
 have hn2:PE.tyO c env1 p.order=true:=by rw [tyO_all2];exact ha
 simp only [hn2,if_true]
 repeat' first |(refine kOps ?_;first |(refine LOps.nil ?_) |(refine LOps.ev tT_ok rfl ?_) |(refine kBsl ?_;first |(refine LOps.bsl0 tT_ok rfl rfl rfl rfl rfl ?_)) |(refine kLoad ?_;first |(refine LOps.ans (AnsL.loadP tT_ok rfl rfl rfl rfl) ?_)) |(refine kLen ?_;first |(refine LOps.ans (AnsL.lenM tT_ok rfl rfl rfl) ?_))) |(refine kWL ?_;first |(refine WL.seq ?_) |(refine WL.region (by kernel_rfl) ?_) |(refine WL.block ?_) |(refine WL.exit ?_) |(refine kCond ?_;first |(refine WL.condF' rfl ?_ ?_;(focus (first |(simp <;> omega)))))) |(refine lthen_n ?_) |(refine lthen_e ?_) |(refine lblock_e ?_) |(refine lbackD_e ?_)
 refine WL.zfam (t:=19) 1 rfl rfl rfl rfl ?_
 refine WL.loopD (fun x:Nat × List Int=>p.items.length - x.1) (fun x=>[(14,envV env1),(3,.ptr (s.next+0) 0),(5,.ptr (s.next+1) 0),(19,.sl (s.next+2) (x.2.map iV)),(93,.sl 0 (p.items.map PE.toV)),(94,.int .i64 p.items.length),(95,.int .i64 (x.1:Int))]) (fun x=>[.var [.sl 0 (c.tables.map Tab.toV)],.var p.v.cells,.fam x.2.length 1])
   (fun x=>x.1≤p.items.length∧PE.tyL c env1 (p.items.take x.1)=some x.2) 3 (0,[]) ⟨by simp,by simp [PE.tyL]⟩ (fun _=>rfl) ⟨rfl,rfl,rfl,rfl,rfl,rfl,rfl,trivial⟩ rfl (fun i hi=>?_) (fun i hi=>?_)
 · simp [UnderK,UnderX,Own.under,V.under,V.underL,PL.v,V.cells,envV,ints]
 obtain ⟨i,ts⟩:=i
 obtain ⟨hi,ht⟩:=hi
 try dsimp only at hi ht ⊢
 have htl:=PE.tyL_len c env1 ht
 rw [List.length_take] at htl
 rcases Nat.lt_or_ge i p.items.length with hlt | hge
 · have hga:(p.items.map PE.toV)[i]?=some (PE.v p.items[i]):=by rw [List.getElem?_map,List.getElem?_eq_getElem hlt];simp only [Option.map_some,PE.toV_eq]
   have hmem:p.items[i]∈p.parts:=PlanOf.mem_items (List.getElem_mem hlt)
   have hE:=ih _ hmem env1 (hb1 _ hmem) hr1
   have hn:=fun h=>PE.tyL_take_none hlt ht h
   have hs:=fun t h=>PE.tyL_take_some (t:=t) hlt ht h
   generalize p.items[i]=x at hga hE hn hs
   cases ho:PE.ty c env1 x with
   | none =>
     rw [ho] at hE
     rw [hn ho]
     repeat' first |(refine kOps ?_;first |(refine LOps.nil ?_) |(refine kStore ?_;refine LOps.storeP tT_ok rfl rfl rfl rfl rfl rfl rfl rfl rfl ?_) |(refine LOps.ev tT_ok rfl ?_) |(refine kAlloc ?_;refine LOps.alloc tT_ok rfl rfl rfl rfl ?_) |(refine kLoad ?_;first |(refine LOps.ans (AnsL.loadP tT_ok rfl rfl rfl rfl) ?_)) |(refine kIdx ?_;first |(refine LOps.ans (AnsL.idx tT_ok rfl rfl rfl rfl rfl hga rfl rfl) ?_)) |(refine kCallN 26 ?_;first |(refine LOps.ans (AnsL.callP rfl rfl rfl (ok26) (hE _)) ?_))) |(refine kWL ?_;first |(refine WL.seq ?_) |(refine WL.region (by kernel_rfl) ?_) |(refine WL.block ?_) |(refine WL.skip ?_) |(refine WL.ret ?_) |(refine kCond ?_;first |(refine WL.condT rfl ?_) |(refine WL.condT' rfl ?_ ?_;(focus (first |(simp <;> omega)))))) |(refine lthen_n ?_) |(refine lthen_r ?_) |(refine lblock_r ?_) |(refine lbackD_r ?_) |(refine LPost.r2 (r := .tmp 6) (r' := .tmp 7) (.inl rfl) (Res1.tmp rfl) (Res1.tmp rfl) ?_) |(refine PureR.mk ?_)
     rfl
   | some t =>
     rw [ho] at hE
     have hs:=hs t ho
     repeat' first |(refine kOps ?_;first |(refine LOps.nil ?_) |(refine kStore ?_;refine LOps.storeP tT_ok rfl rfl rfl rfl rfl rfl rfl rfl rfl ?_) |(refine LOps.ev tT_ok rfl ?_) |(refine kAlloc ?_;refine LOps.alloc tT_ok rfl rfl rfl rfl ?_) |(refine kBsl ?_;first |(refine LOps.bsl tT_ok rfl rfl rfl rfl rfl rfl rfl rfl rfl rfl rfl ?_)) |(refine kApp ?_;first |(refine LOps.app tT_ok rfl rfl rfl rfl rfl rfl rfl rfl rfl rfl rfl ?_ ?_ (AppB.of ?_ rfl) ?_;(focus (first | rfl |(simp <;> fail)));(focus (first | exact Elems.of rfl | exact Elems.map fun _=>rfl | exact PE.els _ (fun _=>rfl) _));(focus (first | omega |(simp;omega))))) |(refine kLoad ?_;first |(refine LOps.ans (AnsL.loadP tT_ok rfl rfl rfl rfl) ?_)) |(refine kBin ?_;first |(refine LOps.ans (AnsL.add rfl rfl ?_) ?_;(focus (constructor <;> omega)))) |(refine kIdx ?_;first |(refine LOps.ans (AnsL.idx tT_ok rfl rfl rfl rfl rfl hga rfl rfl) ?_)) |(refine kCallN 26 ?_;first |(refine LOps.ans (AnsL.callP rfl rfl rfl (ok26) (hE _)) ?_))) |(refine kWL ?_;first |(refine WL.seq ?_) |(refine WL.region (by kernel_rfl) ?_) |(refine WL.block ?_) |(refine WL.skip ?_) |(refine kCond ?_;first |(refine WL.condF rfl ?_) |(refine WL.condT' rfl ?_ ?_;(focus (first |(simp <;> omega)))))) |(refine lthen_n ?_) |(refine lblock_n ?_)
     refine lbackD.of (i+1,ts++[t]) ⟨hlt,hs⟩ (by show p.items.length - (i+1)<p.items.length - i;omega) ?_ ?_
     · rw [List.map_append]
       repeat' first | exact SubL.nil |(refine SubL.mk rfl ?_ ?_) | rfl |(simp <;> fail) |(simp;omega)
     · simp [PL.v,V.cells]
 · rw [List.take_of_length_le hge] at ht
   rw [ht]
   repeat' first |(refine kOps ?_;first |(refine LOps.nil ?_) |(refine LOps.ev tT_ok rfl ?_)) |(refine kWL ?_;first |(refine WL.seq ?_) |(refine WL.region (by kernel_rfl) ?_) |(refine WL.exit ?_) |(refine WL.ret ?_) |(refine kCond ?_;first |(refine WL.condF' rfl ?_ ?_;(focus (first |(simp <;> omega)))))) |(refine lthen_n ?_) |(refine lthen_e ?_) |(refine lblock_e ?_) |(refine lbackD_e ?_) |(refine LPost.r2 (r := .tmp 6) (r' := .tmp 7) (.inl rfl) (Res1.tmp rfl) (Res1.tmp rfl) ?_) |(refine PureR.mk ?_)
   simp [typesV,ints,V.forget,V.forgetL]
end Go.Proofs.Ytolhegocbkckdaa
