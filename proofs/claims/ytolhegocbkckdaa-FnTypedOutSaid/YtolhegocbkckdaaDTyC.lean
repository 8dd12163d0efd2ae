/-
 The types of plans' trees and plans, of the reference. Own work; no condition.
-/
import Derived.Test.YtolhegocbkckdaaDTyB
namespace Go.Proofs.Ytolhegocbkckdaa
open Go
set_option linter.unusedSimpArgs false
set_option linter.unusedVariables false
def RowsOk (env:List (List Int)):Prop:=∀ r∈env,r.length≤4194304
def typesV (o:Option (List Int)):V := .tup [ints (match o with | some l=>l | none=>[]),.bool o.isSome]
@[simp] theorem typesV_dat (o:Option (List Int)):(typesV o).dat=true:=by simp [typesV]
def TyC (P:Program) (g:FuncId) (c:Cat) (e:PE):Prop:=∀ env,env.length+wgt e.v≤8388608→RowsOk env→∀ s:S,VCalls P g [c.toV,envV env,e.v] s (fun v s'=>v=optV (e.ty c env)∧s'=s)
def PlC (P:Program) (g:FuncId) (c:Cat) (p:PL):Prop:=∀ env,env.length+wgt p.v≤8388608→RowsOk env→∀ s:S,VCalls P g [c.toV,envV env,p.v] s (fun v s'=>v=typesV (PE.tyP c env p)∧s'=s)
theorem RowsOk.cons {env:List (List Int)} {r:List Int} (h:RowsOk env) (hr:r.length≤4194304):RowsOk (r::env):=fun x hx=>by
 rcases List.mem_cons.1 hx with rfl | hx
 · exact hr
 · exact h x hx
theorem len_two {α : Type}:∀ {l:List α},l.length=2→∃ a b,l=[a,b]
 | [a,b],_=>⟨a,b,rfl⟩
 | [],h=>by cases h
 | [_],h=>by cases h
 | _::_::_::_,h=>by simp at h
theorem shape_facts {e:PE} (h:e.shape=true):(e.kind=1∧e.kids=[]∧e.sub=[])∨(e.kind=2∧e.kids=[]∧e.sub=[])∨(e.kind=3∧(∃ a,e.kids=[a])∧e.sub=[])∨(e.kind=4∧(∃ a b,e.kids=[a,b])∧e.sub=[])∨(e.kind=5∧e.sub=[])∨(e.kind=6∧e.sub=[])∨(e.kind=7∧e.sub=[])∨(e.kind=8∧∃ p,e.sub=[p])∨(e.kind=9∧e.kids=[]∧∃ p,e.sub=[p]):=by
 simp only [PE.shape,decide_eq_true_eq,ShapeP,KindOk,List.length_eq_zero_iff] at h
 obtain ⟨_,_,_,_,h⟩:=h
 rcases h with ⟨h,_,h1,h2⟩ | ⟨h,h1,h2⟩ | ⟨h,_,h1,h2⟩ | ⟨h,_,_,h1,h2⟩ | ⟨h,h1,h2⟩ | ⟨h,h1,h2⟩ | ⟨h,_,_,h2⟩ | ⟨h,h1,h2⟩ | ⟨h,h1,h2⟩
 · exact .inl ⟨h,h1,h2⟩
 · exact .inr (.inl ⟨h,h1,h2⟩)
 · exact .inr (.inr (.inl ⟨h,List.length_eq_one_iff.1 h1,h2⟩))
 · exact .inr (.inr (.inr (.inl ⟨h,len_two h1,h2⟩)))
 · exact .inr (.inr (.inr (.inr (.inl ⟨h,h2⟩))))
 · exact .inr (.inr (.inr (.inr (.inr (.inl ⟨h,h2⟩)))))
 · exact .inr (.inr (.inr (.inr (.inr (.inr (.inl ⟨h,h2⟩))))))
 · exact .inr (.inr (.inr (.inr (.inr (.inr (.inr (.inl ⟨h,List.length_eq_one_iff.1 h2⟩)))))))
 · exact .inr (.inr (.inr (.inr (.inr (.inr (.inr (.inr ⟨h,h1,List.length_eq_one_iff.1 h2⟩)))))))
theorem PE.tyL_take_none {c:Cat} {env:List (List Int)} {l:List PE} {i:Nat} (hi:i<l.length) {ts:List Int} (h:PE.tyL c env (l.take i)=some ts) (hx:PE.ty c env l[i]=none):PE.tyL c env l=none:=by
 refine PE.tyL_none_take c env hi ?_
 rw [List.take_succ_eq_append_getElem hi,PE.tyL_snoc,h]
 simp only [hx]
theorem PE.tyL_take_some {c:Cat} {env:List (List Int)} {l:List PE} {i:Nat} (hi:i<l.length) {ts:List Int} {t:Int} (h:PE.tyL c env (l.take i)=some ts) (hx:PE.ty c env l[i]=some t):PE.tyL c env (l.take (i+1))=some (ts++[t]):=by
 rw [List.take_succ_eq_append_getElem hi,PE.tyL_snoc,h]
 simp only [hx]
def truT (c:Cat) (env:List (List Int)) (x:PE):Bool:=match PE.ty c env x with
 | some t=>tru t
 | none=>false
theorem truT_none {c:Cat} {env:List (List Int)} {x:PE} (h:PE.ty c env x=none):truT c env x=false:=by simp only [truT,h]
theorem truT_some {c:Cat} {env:List (List Int)} {x:PE} {t:Int} (h:PE.ty c env x=some t):truT c env x=tru t:=by simp only [truT,h]
theorem tyT_all2 (c:Cat) (env:List (List Int)) (l:List PE):PE.tyT c env l=l.all (truT c env):=PE.tyT_all c env l
theorem all_no {α : Type} {p : α → Bool} {l:List α} {i:Nat} (hi:i<l.length) (h:p l[i]=false):l.all p=false:=by
 rw [List.all_eq_false]
 exact ⟨l[i],List.getElem_mem hi,by simp [h]⟩
def isT (c:Cat) (env:List (List Int)) (x:PE × Bool):Bool:=(PE.ty c env x.1).isSome
theorem tyO_all2 (c:Cat) (env:List (List Int)) (l:List (PE × Bool)):PE.tyO c env l=l.all (isT c env):=PE.tyO_all c env l
theorem on_len2 {p:PL} {i:Nat} (hi:i<p.on.length):p.on[i].length≤p.parts.length:=by
 have h1:p.on=p.on.take i++p.on[i]::p.on.drop (i+1):=by rw [← List.drop_eq_getElem_cons hi,List.take_append_drop]
 have h2:(p.on.take i++p.on[i]::p.on.drop (i+1)).flatten.length=(p.on.take i).flatten.length+(p.on[i].length+(p.on.drop (i+1)).flatten.length):=by
   simp only [List.flatten_append,List.flatten_cons,List.length_append]
 rw [← h1] at h2
 simp only [PlanOf.parts,List.length_append]
 omega
theorem specl20True_r (c:Cat) (l:List PE) (env:List (List Int)) (hl:l.length≤8388608) (hb:∀ k∈l,env.length+wgt k.v≤8388608) (hr:RowsOk env) (ih:∀ k∈l,TyC Try.prog 27 c k) (s:S):VCalls Try.prog 119 [c.toV,envV env,.sl 0 (l.map PE.toV)] s (fun v s'=>v = .bool (PE.tyT c env l)∧s'=s):=by
 rw [tyT_all2]
 refine LCalls.pure Try.func119 rfl (by kernel_rfl) (by simp) ?_
 repeat' first |(refine kOps ?_;first |(refine LOps.nil ?_) |(refine LOps.ev tT_ok rfl ?_) |(refine kBox ?_;refine LOps.box rfl rfl rfl rfl ?_)) |(refine kWL ?_;first |(refine WL.seq ?_) |(refine WL.region (by kernel_rfl) ?_) |(refine WL.block ?_)) |(refine lthen_n ?_)
 refine WL.loopD (fun i:Nat=>l.length - i) (fun i=>[(1,envV env),(2,.sl 0 (l.map PE.toV)),(3,.ptr (s.next+0) 0),(7,.int .i64 (i:Int))]) (fun i=>[.var [.sl 0 (c.tables.map Tab.toV)]])
   (fun i=>i≤l.length∧(l.take i).all (truT c env)=true) 1 0 ⟨by simp,by simp⟩ (fun _=>rfl) ⟨rfl,rfl,rfl,rfl,trivial⟩ rfl (fun i hi=>?_) (fun i hi=>?_)
 · simp [UnderK,UnderX,Own.under,V.under,V.underL,envV]
 obtain ⟨hi,ha⟩:=hi
 rcases Nat.lt_or_ge i l.length with hlt | hge
 · have hga:(l.map PE.toV)[i]?=some (PE.v l[i]):=by rw [List.getElem?_map,List.getElem?_eq_getElem hlt];simp only [Option.map_some,PE.toV_eq]
   have hE:=ih l[i] (List.getElem_mem hlt) env (hb _ (List.getElem_mem hlt)) hr
   have hst:=all_take (p:=truT c env) hlt
   rw [ha,Bool.true_and] at hst
   have hno:=all_no (p:=truT c env) hlt
   generalize l[i]=x at hga hE hst hno
   cases ho:PE.ty c env x with
   | none =>
     rw [ho] at hE
     rw [hno (truT_none ho)]
     repeat' first |(refine kOps ?_;first |(refine LOps.nil ?_) |(refine kG ?_;first |(refine LOps.gF rfl rfl rfl ?_)) |(refine LOps.ev tT_ok rfl ?_) |(refine kLen ?_;first |(refine LOps.ans (AnsL.lenM tT_ok rfl rfl rfl) ?_))) |(refine kWL ?_;first |(refine WL.seq ?_) |(refine WL.region (by kernel_rfl) ?_) |(refine WL.drawn (id:=4) [0,1,2,3,4,5,6,7,8,9,10,11] [] [[],[],[],[],[2,3],[2,3,4],[0,1,2,3,4,5],[0,1,2,3,4,5,6],[0,1,2,3,4,5,6,7],[0,1,2,3,4,5,6,7],[0,1,2,3,4,5,6,7,8],[0,1,2,3,4,5,6,7,8,9,10]] (by kernel_rfl) (by kernel_rfl) ?_) |(refine WL.block ?_) |(refine WL.skip ?_) |(refine WL.ret ?_) |(refine kCond ?_;first |(refine WL.condT rfl ?_) |(refine WL.condT' rfl ?_ ?_;(focus (first |(simp <;> omega)))))) |(refine kDr ?_;first |(refine LDr.nil ?_) |(refine LDr.fl rfl rfl (.ev tT_ok rfl) ?_) |(refine kDLoad rfl ?_;first |(refine LDr.fl rfl rfl (AnsL.loadP tT_ok rfl rfl rfl rfl) ?_)) |(refine kDIdx rfl ?_;first |(refine LDr.fl rfl rfl (AnsL.idx tT_ok rfl rfl rfl rfl rfl hga rfl rfl) ?_)) |(refine kDCallN 27 rfl ?_;first |(refine LDr.fl rfl rfl (AnsL.callP rfl rfl rfl (ok27) (hE _)) ?_))) |(refine lthen_n ?_) |(refine lthen_r ?_) |(refine lblock_r ?_) |(refine lbackD_r ?_) |(refine LPost.r1 (r := .tmp 6) (.inl rfl) (Res1.tmp rfl) ?_) |(refine PureR.mk ?_)
     rfl
   | some t =>
     rw [ho] at hE
     rw [truT_some ho] at hst hno
     have hT:=fun s=>specTruthy_t t s
     cases ht:tru t <;> rw [ht] at hT hno hst
     · rw [hno rfl]
       repeat' first |(refine kOps ?_;first |(refine LOps.nil ?_) |(refine kG ?_;first |(refine LOps.gT rfl rfl rfl ?_)) |(refine LOps.ev tT_ok rfl ?_) |(refine kLen ?_;first |(refine LOps.ans (AnsL.lenM tT_ok rfl rfl rfl) ?_)) |(refine kCallN 113 ?_;first |(refine LOps.ans (AnsL.callP rfl rfl rfl (ok113) (hT _)) ?_))) |(refine kWL ?_;first |(refine WL.seq ?_) |(refine WL.region (by kernel_rfl) ?_) |(refine WL.drawn (id:=4) [0,1,2,3,4,5,6,7,8,9,10,11] [] [[],[],[],[],[2,3],[2,3,4],[0,1,2,3,4,5],[0,1,2,3,4,5,6],[0,1,2,3,4,5,6,7],[0,1,2,3,4,5,6,7],[0,1,2,3,4,5,6,7,8],[0,1,2,3,4,5,6,7,8,9,10]] (by kernel_rfl) (by kernel_rfl) ?_) |(refine WL.block ?_) |(refine WL.skip ?_) |(refine WL.ret ?_) |(refine kCond ?_;first |(refine WL.condT rfl ?_) |(refine WL.condT' rfl ?_ ?_;(focus (first |(simp <;> omega)))))) |(refine kDr ?_;first |(refine LDr.nil ?_) |(refine LDr.fl rfl rfl (.ev tT_ok rfl) ?_) |(refine kDLoad rfl ?_;first |(refine LDr.fl rfl rfl (AnsL.loadP tT_ok rfl rfl rfl rfl) ?_)) |(refine kDIdx rfl ?_;first |(refine LDr.fl rfl rfl (AnsL.idx tT_ok rfl rfl rfl rfl rfl hga rfl rfl) ?_)) |(refine kDCallN 27 rfl ?_;first |(refine LDr.fl rfl rfl (AnsL.callP rfl rfl rfl (ok27) (hE _)) ?_))) |(refine lthen_n ?_) |(refine lthen_r ?_) |(refine lblock_r ?_) |(refine lbackD_r ?_) |(refine LPost.r1 (r := .tmp 6) (.inl rfl) (Res1.tmp rfl) ?_) |(refine PureR.mk ?_)
       rfl
     · skip
       repeat' first |(refine kOps ?_;first |(refine LOps.nil ?_) |(refine kG ?_;first |(refine LOps.gT rfl rfl rfl ?_)) |(refine LOps.ev tT_ok rfl ?_) |(refine kLen ?_;first |(refine LOps.ans (AnsL.lenM tT_ok rfl rfl rfl) ?_)) |(refine kBin ?_;first |(refine LOps.ans (AnsL.add rfl rfl ?_) ?_;(focus (constructor <;> omega)))) |(refine kCallN 113 ?_;first |(refine LOps.ans (AnsL.callP rfl rfl rfl (ok113) (hT _)) ?_))) |(refine kWL ?_;first |(refine WL.seq ?_) |(refine WL.region (by kernel_rfl) ?_) |(refine WL.drawn (id:=4) [0,1,2,3,4,5,6,7,8,9,10,11] [] [[],[],[],[],[2,3],[2,3,4],[0,1,2,3,4,5],[0,1,2,3,4,5,6],[0,1,2,3,4,5,6,7],[0,1,2,3,4,5,6,7],[0,1,2,3,4,5,6,7,8],[0,1,2,3,4,5,6,7,8,9,10]] (by kernel_rfl) (by kernel_rfl) ?_) |(refine WL.block ?_) |(refine WL.skip ?_) |(refine kCond ?_;first |(refine WL.condF rfl ?_) |(refine WL.condT' rfl ?_ ?_;(focus (first |(simp <;> omega)))))) |(refine kDr ?_;first |(refine LDr.nil ?_) |(refine LDr.fl rfl rfl (.ev tT_ok rfl) ?_) |(refine kDLoad rfl ?_;first |(refine LDr.fl rfl rfl (AnsL.loadP tT_ok rfl rfl rfl rfl) ?_)) |(refine kDIdx rfl ?_;first |(refine LDr.fl rfl rfl (AnsL.idx tT_ok rfl rfl rfl rfl rfl hga rfl rfl) ?_)) |(refine kDCallN 27 rfl ?_;first |(refine LDr.fl rfl rfl (AnsL.callP rfl rfl rfl (ok27) (hE _)) ?_))) |(refine lthen_n ?_) |(refine lblock_n ?_)
       all_goals
         refine lbackD.of (i+1) ?_ ?_ ?_ ?_
         · first | omega |(refine ⟨?_,?_⟩;(focus (first | omega |(simp;omega)));(first | omega |(simp_all [hst] <;> fail) |(simp_all [hst];omega))) |(simp_all [hst] <;> fail) |(simp_all [hst];omega)
         · first | omega |(simp;omega) | simp_all
         · repeat' first
             | exact SubL.nil
             |(refine SubL.mk rfl ?_ ?_)
             | rfl
             |(simp [hst] <;> fail)
             |(simp [hst];omega)
         · first | rfl |(simp [hst] <;> fail) |(simp [hst];omega)
 · rw [List.take_of_length_le hge] at ha
   rw [ha]
   repeat' first |(refine kOps ?_;first |(refine LOps.nil ?_) |(refine LOps.ev tT_ok rfl ?_) |(refine kLen ?_;first |(refine LOps.ans (AnsL.lenM tT_ok rfl rfl rfl) ?_))) |(refine kWL ?_;first |(refine WL.seq ?_) |(refine WL.region (by kernel_rfl) ?_) |(refine WL.exit ?_) |(refine WL.ret ?_) |(refine kCond ?_;first |(refine WL.condF' rfl ?_ ?_;(focus (first |(simp <;> omega)))))) |(refine lthen_n ?_) |(refine lthen_e ?_) |(refine lblock_e ?_) |(refine lbackD_e ?_) |(refine LPost.r1 (r := .tmp 6) (.inl rfl) (Res1.tmp rfl) ?_) |(refine PureR.mk ?_)
   rfl
set_option maxHeartbeats 600000 in
theorem specPlanTypes_r (c:Cat) (p:PL) (hc:c.wt≤1048576) (hw:wgt p.v≤1048576) (ih:∀ k∈p.parts,TyC Try.prog 27 c k):PlC Try.prog 69 c p:=by
 intro env hb hr s
 rw [PE.tyP_eq]
 have hB:=fun t=>specl20Bounds_v c p hc hw t
 have hpw:∀ k∈p.parts,1+wgt k.v≤wgt p.v:=fun k hk=>by
   obtain ⟨i,hi,rfl⟩:=List.getElem_of_mem hk
   exact Nat.le_trans (sumW_mem (f:=fun k=>1+wgt (PE.v k)) hi) (PL.parts_w p)
 have hon1:=PL.on_le p
 have hpl:=PL.parts_len p
 cases hok:p.ok c <;> rw [hok] at hB
 · simp only [Bool.false_eq_true,if_false]
   refine LCalls.pure Try.func69 rfl (by kernel_rfl) (by simp) ?_
   repeat' first |(refine kOps ?_;first |(refine LOps.nil ?_) |(refine LOps.ev tT_ok rfl ?_) |(refine kBox ?_;refine LOps.box rfl rfl rfl rfl ?_) |(refine kBsl ?_;first |(refine LOps.bsl0 tT_ok rfl rfl rfl rfl rfl ?_)) |(refine kLoad ?_;first |(refine LOps.ans (AnsL.loadP tT_ok rfl rfl rfl rfl) ?_)) |(refine kCallN 117 ?_;first |(refine LOps.ans (AnsL.callP rfl rfl rfl (ok117) (hB _)) ?_))) |(refine kWL ?_;first |(refine WL.seq ?_) |(refine WL.region (by kernel_rfl) ?_) |(refine WL.ret ?_) |(refine kCond ?_;first |(refine WL.condT rfl ?_))) |(refine lthen_n ?_) |(refine lthen_r ?_) |(refine LPost.r2 (r := .tmp 6) (r' := .tmp 7) (.inl rfl) (Res1.tmp rfl) (Res1.tmp rfl) ?_) |(refine PureR.mk ?_)
   rfl
 simp only [if_true]
 have hok2:=hok
 simp only [PL.ok,Bool.and_eq_true] at hok2
 obtain ⟨hform,hall⟩:=hok2
 simp only [PL.form,Bool.and_eq_true,decide_eq_true_eq] at hform
 obtain ⟨⟨f1,f2,f3,f4,f5,f6,f7,f8,f9,f10⟩,f11,f12⟩:=hform
 have hrow:∀ ts,(∀ k∈ts,k∈p.tables)→ts.length≤3→rowTy c ts=(rowsOf c ts,true)∧(rowsOf c ts).length≤3145728:=fun ts h1 h2=>by
   refine ⟨?_,?_⟩
   · have:ts.all (rowIn c)=true:=by
       rw [List.all_eq_true] at hall ⊢
       exact fun k hk=>hall k (h1 k hk)
     simp only [rowTy,this,if_true]
   · have:=rowsOf_len c hc ts
     omega
 have hR0:=fun t=>specRowTypes_v c p.tables hc (by omega) t
 obtain ⟨e0,l0⟩:=hrow p.tables (fun _ h=>h) f2
 rw [e0] at hR0
 refine LCalls.pure Try.func69 rfl (by kernel_rfl) (by simp) ?_
 repeat' first |(refine kOps ?_;first |(refine LOps.nil ?_) |(refine LOps.ev tT_ok rfl ?_) |(refine kBox ?_;refine LOps.box rfl rfl rfl rfl ?_) |(refine kLoad ?_;first |(refine LOps.ans (AnsL.loadP tT_ok rfl rfl rfl rfl) ?_)) |(refine kCallN 117 ?_;first |(refine LOps.ans (AnsL.callP rfl rfl rfl (ok117) (hB _)) ?_))) |(refine kWL ?_;first |(refine WL.seq ?_) |(refine WL.region (by kernel_rfl) ?_) |(refine WL.block ?_) |(refine WL.skip ?_) |(refine kCond ?_;first |(refine WL.condF rfl ?_))) |(refine lthen_n ?_)
 refine WL.loopD (fun i:Nat=>p.on.length - i) (fun i=>[(1,envV env),(3,.ptr (s.next+0) 0),(5,.ptr (s.next+1) 0),(8,.int .i64 (i:Int))]) (fun i=>[.var [.sl 0 (c.tables.map Tab.toV)],.var p.v.cells])
   (fun i=>i≤p.on.length∧PE.tyOn c env p.tables 1 p.on=PE.tyOn c env p.tables (1+i) (p.on.drop i)) 2 0 ⟨by simp,by simp⟩ (fun _=>rfl) ⟨rfl,rfl,rfl,rfl,trivial⟩ rfl (fun i hi=>?_) (fun i hi=>?_)
 · simp [UnderK,UnderX,Own.under,V.under,V.underL,PL.v,V.cells,envV]
 obtain ⟨hi,hc1⟩:=hi
 rcases Nat.lt_or_ge i p.on.length with hlt | hge
 · have hga:(p.on.map PE.vS)[i]?=some (PE.vS p.on[i]):=by rw [List.getElem?_map,List.getElem?_eq_getElem hlt];rfl
   rw [List.drop_eq_getElem_cons hlt,PE.tyOn] at hc1
   have hmem:∀ k∈p.on[i],k∈p.parts:=fun k hk=>PlanOf.mem_on (List.getElem_mem hlt) hk
   have hsl:i+1≤(p.tables.map iV).length:=by rw [List.length_map];omega
   obtain ⟨e1,l1⟩:=hrow (p.tables.take (i+1)) (fun _ h=>List.mem_of_mem_take h) (by rw [List.length_take];omega)
   rw [Nat.add_comm i 1] at e1 l1
   have hR1:∀ t,VCalls Try.prog 118 [c.toV,.sl 0 ((p.tables.map iV).take (i+1))] t (fun v t'=>v=rowV (rowsOf c (p.tables.take (1+i)),true)∧t'=t):=fun t=>by
     rw [← List.map_take,Nat.add_comm i 1]
     have:=specRowTypes_v c (p.tables.take (1+i)) hc (by rw [List.length_take];omega) t
     rw [e1] at this
     exact this
   have hol:=on_len2 hlt
   generalize rowsOf c (p.tables.take (1+i))=R at hc1 hR1 l1
   have hX:=fun t=>specl20Env_v R env (by omega) t
   have hG:=fun t=>specl20True_r c p.on[i] (R::env) (by omega) (fun k hk=>by have:=hpw k (hmem k hk);simp only [List.length_cons];omega) (hr.cons (by omega)) (fun k hk=>ih k (hmem k hk)) t
   generalize p.on[i]=l at hga hc1 hG
   cases hb1:PE.tyT c (R::env) l <;> rw [hb1] at hG hc1
   · rw [Bool.false_and] at hc1
     simp only [hc1,Bool.false_eq_true,if_false]
     repeat' first |(refine kOps ?_;first |(refine LOps.nil ?_) |(refine LOps.ev tT_ok rfl ?_) |(refine kBsl ?_;first |(refine LOps.bsl0 tT_ok rfl rfl rfl rfl rfl ?_)) |(refine kLoad ?_;first |(refine LOps.ans (AnsL.loadP tT_ok rfl rfl rfl rfl) ?_)) |(refine kLen ?_;first |(refine LOps.ans (AnsL.lenM tT_ok rfl rfl rfl) ?_))) |(refine kWL ?_;first |(refine WL.seq ?_) |(refine WL.region (by kernel_rfl) ?_) |(refine WL.drawn (id:=6) [0,1,2,3,4,5,6,7,8,9,10,11] [] [[],[],[1],[],[3],[1,2,3,4],[0,1,2,3,4,5],[0,1,2,3,4,5,6],[0,1,2,3,4,5,6,7],[0,1,2,3,4,5,6,7],[0,1,2,3,4,5,6,7,8],[0,1,2,3,4,5,6,7,8,9,10]] (by kernel_rfl) (by kernel_rfl) ?_) |(refine WL.drawn (id:=7) [0,1,2,3,4,5,6,7,8,9,10] [] [[],[],[],[1,2],[],[4],[],[4,5,6],[4,5,6,7],[0,1,2,3,4,5,6,7,8],[0,1,2,3,4,5,6,7,8,9]] (by kernel_rfl) (by kernel_rfl) ?_) |(refine WL.block ?_) |(refine WL.skip ?_) |(refine WL.ret ?_) |(refine kCond ?_;first |(refine WL.condT rfl ?_) |(refine WL.condT' rfl ?_ ?_;(focus (first |(simp <;> omega)))))) |(refine kDr ?_;first |(refine LDr.nil ?_) |(refine LDr.fl rfl rfl (.ev tT_ok rfl) ?_) |(refine kDLoad rfl ?_;first |(refine LDr.fl rfl rfl (AnsL.loadP tT_ok rfl rfl rfl rfl) ?_)) |(refine kDBin rfl ?_;first |(refine LDr.fl rfl rfl (AnsL.add rfl rfl ?_) ?_;(focus (constructor <;> omega)))) |(refine kDIdx rfl ?_;first |(refine LDr.fl rfl rfl (AnsL.idx tT_ok rfl rfl rfl rfl rfl hga rfl rfl) ?_)) |(refine kDSlc rfl ?_;first |(refine LDr.fl rfl rfl (AnsL.slcT (n:=i+1) tT_ok rfl rfl rfl rfl rfl hsl) ?_)) |(refine kDCallN 118 rfl ?_;first |(refine LDr.fl rfl rfl (AnsL.callP rfl rfl rfl (ok118) (hR1 _)) ?_)) |(refine kDCallN 119 rfl ?_;first |(refine LDr.fl rfl rfl (AnsL.callP rfl rfl rfl (ok119) (hG _)) ?_)) |(refine kDCallN 120 rfl ?_;first |(refine LDr.fl rfl rfl (AnsL.callP rfl rfl rfl (ok120) (hX _)) ?_))) |(refine lthen_n ?_) |(refine lthen_r ?_) |(refine lblock_r ?_) |(refine lbackD_r ?_) |(refine LPost.r2 (r := .tmp 6) (r' := .tmp 7) (.inl rfl) (Res1.tmp rfl) (Res1.tmp rfl) ?_) |(refine PureR.mk ?_)
     rfl
   · rw [Bool.true_and] at hc1
     repeat' first |(refine kOps ?_;first |(refine LOps.nil ?_) |(refine LOps.ev tT_ok rfl ?_) |(refine kLoad ?_;first |(refine LOps.ans (AnsL.loadP tT_ok rfl rfl rfl rfl) ?_)) |(refine kLen ?_;first |(refine LOps.ans (AnsL.lenM tT_ok rfl rfl rfl) ?_)) |(refine kBin ?_;first |(refine LOps.ans (AnsL.add rfl rfl ?_) ?_;(focus (constructor <;> omega))))) |(refine kWL ?_;first |(refine WL.seq ?_) |(refine WL.region (by kernel_rfl) ?_) |(refine WL.drawn (id:=6) [0,1,2,3,4,5,6,7,8,9,10,11] [] [[],[],[1],[],[3],[1,2,3,4],[0,1,2,3,4,5],[0,1,2,3,4,5,6],[0,1,2,3,4,5,6,7],[0,1,2,3,4,5,6,7],[0,1,2,3,4,5,6,7,8],[0,1,2,3,4,5,6,7,8,9,10]] (by kernel_rfl) (by kernel_rfl) ?_) |(refine WL.drawn (id:=7) [0,1,2,3,4,5,6,7,8,9,10] [] [[],[],[],[1,2],[],[4],[],[4,5,6],[4,5,6,7],[0,1,2,3,4,5,6,7,8],[0,1,2,3,4,5,6,7,8,9]] (by kernel_rfl) (by kernel_rfl) ?_) |(refine WL.block ?_) |(refine WL.skip ?_) |(refine kCond ?_;first |(refine WL.condF rfl ?_) |(refine WL.condT' rfl ?_ ?_;(focus (first |(simp <;> omega)))))) |(refine kDr ?_;first |(refine LDr.nil ?_) |(refine LDr.fl rfl rfl (.ev tT_ok rfl) ?_) |(refine kDLoad rfl ?_;first |(refine LDr.fl rfl rfl (AnsL.loadP tT_ok rfl rfl rfl rfl) ?_)) |(refine kDBin rfl ?_;first |(refine LDr.fl rfl rfl (AnsL.add rfl rfl ?_) ?_;(focus (constructor <;> omega)))) |(refine kDIdx rfl ?_;first |(refine LDr.fl rfl rfl (AnsL.idx tT_ok rfl rfl rfl rfl rfl hga rfl rfl) ?_)) |(refine kDSlc rfl ?_;first |(refine LDr.fl rfl rfl (AnsL.slcT (n:=i+1) tT_ok rfl rfl rfl rfl rfl hsl) ?_)) |(refine kDCallN 118 rfl ?_;first |(refine LDr.fl rfl rfl (AnsL.callP rfl rfl rfl (ok118) (hR1 _)) ?_)) |(refine kDCallN 119 rfl ?_;first |(refine LDr.fl rfl rfl (AnsL.callP rfl rfl rfl (ok119) (hG _)) ?_)) |(refine kDCallN 120 rfl ?_;first |(refine LDr.fl rfl rfl (AnsL.callP rfl rfl rfl (ok120) (hX _)) ?_))) |(refine lthen_n ?_) |(refine lblock_n ?_)
     all_goals
       refine lbackD.of (i+1) ?_ ?_ ?_ ?_
       · first | omega |(refine ⟨?_,?_⟩;(focus (first | omega |(simp;omega)));(first | omega |(simp_all [hc1] <;> fail) |(simp_all [hc1];omega))) |(simp_all [hc1] <;> fail) |(simp_all [hc1];omega)
       · first | omega |(simp;omega) | simp_all
       · repeat' first
           | exact SubL.nil
           |(refine SubL.mk rfl ?_ ?_)
           | rfl
           |(simp [hc1] <;> fail)
           |(simp [hc1];omega)
       · first | rfl |(simp [hc1] <;> fail) |(simp [hc1];omega)
 rw [List.drop_of_length_le hge,PE.tyOn] at hc1
 simp only [hc1,if_true]
 generalize rowsOf c p.tables=R at hR0 l0 ⊢
 have hX:=fun t=>specl20Env_v R env (by omega) t
 have hr1:RowsOk (R::env):=hr.cons (by omega)
 have hb1:∀ k∈p.parts,(R::env).length+wgt k.v≤8388608:=fun k hk=>by have:=hpw k hk;simp only [List.length_cons];omega
 have hG:=fun t=>specl20True_r c p.wher (R::env) (by omega) (fun k hk=>hb1 k (PlanOf.mem_wher hk)) hr1 (fun k hk=>ih k (PlanOf.mem_wher hk)) t
 generalize hen:R::env=env1 at hX hG hr1 hb1 ⊢
 cases hb2:PE.tyT c env1 p.wher <;> rw [hb2] at hG
 · simp only [Bool.false_eq_true,if_false]
   repeat' first |(refine kOps ?_;first |(refine LOps.nil ?_) |(refine LOps.ev tT_ok rfl ?_) |(refine kBsl ?_;first |(refine LOps.bsl0 tT_ok rfl rfl rfl rfl rfl ?_)) |(refine kLoad ?_;first |(refine LOps.ans (AnsL.loadP tT_ok rfl rfl rfl rfl) ?_)) |(refine kLen ?_;first |(refine LOps.ans (AnsL.lenM tT_ok rfl rfl rfl) ?_)) |(refine kCallN 118 ?_;first |(refine LOps.ans (AnsL.callP rfl rfl rfl (ok118) (hR0 _)) ?_)) |(refine kCallN 119 ?_;first |(refine LOps.ans (AnsL.callP rfl rfl rfl (ok119) (hG _)) ?_)) |(refine kCallN 120 ?_;first |(refine LOps.ans (AnsL.callP rfl rfl rfl (ok120) (hX _)) ?_))) |(refine kWL ?_;first |(refine WL.seq ?_) |(refine WL.region (by kernel_rfl) ?_) |(refine WL.exit ?_) |(refine WL.ret ?_) |(refine kCond ?_;first |(refine WL.condT rfl ?_) |(refine WL.condF' rfl ?_ ?_;(focus (first |(simp <;> omega)))))) |(refine lthen_n ?_) |(refine lthen_r ?_) |(refine lthen_e ?_) |(refine lblock_e ?_) |(refine lbackD_e ?_) |(refine LPost.r2 (r := .tmp 6) (r' := .tmp 7) (.inl rfl) (Res1.tmp rfl) (Res1.tmp rfl) ?_) |(refine PureR.mk ?_)
   rfl
 simp only [if_true]
 repeat' first |(refine kOps ?_;first |(refine LOps.nil ?_) |(refine LOps.ev tT_ok rfl ?_) |(refine kLoad ?_;first |(refine LOps.ans (AnsL.loadP tT_ok rfl rfl rfl rfl) ?_)) |(refine kLen ?_;first |(refine LOps.ans (AnsL.lenM tT_ok rfl rfl rfl) ?_)) |(refine kCallN 118 ?_;first |(refine LOps.ans (AnsL.callP rfl rfl rfl (ok118) (hR0 _)) ?_)) |(refine kCallN 119 ?_;first |(refine LOps.ans (AnsL.callP rfl rfl rfl (ok119) (hG _)) ?_)) |(refine kCallN 120 ?_;first |(refine LOps.ans (AnsL.callP rfl rfl rfl (ok120) (hX _)) ?_))) |(refine kWL ?_;first |(refine WL.seq ?_) |(refine WL.region (by kernel_rfl) ?_) |(refine WL.block ?_) |(refine WL.exit ?_) |(refine WL.skip ?_) |(refine kCond ?_;first |(refine WL.condF rfl ?_) |(refine WL.condF' rfl ?_ ?_;(focus (first |(simp <;> omega)))))) |(refine lthen_n ?_) |(refine lthen_e ?_) |(refine lblock_e ?_) |(refine lbackD_e ?_)
 refine WL.loopD (fun i:Nat=>p.order.length - i) (fun i=>[(13,envV env1),(3,.ptr (s.next+0) 0),(5,.ptr (s.next+1) 0),(14,.int .i64 (i:Int))]) (fun i=>[.var [.sl 0 (c.tables.map Tab.toV)],.var p.v.cells])
   (fun i=>i≤p.order.length∧(p.order.take i).all (isT c env1)=true) 2 0 ⟨by simp,by simp⟩ (fun _=>rfl) ⟨rfl,rfl,rfl,rfl,trivial⟩ rfl (fun i hi=>?_) (fun i hi=>?_)
 · simp [UnderK,UnderX,Own.under,V.under,V.underL,PL.v,V.cells,envV]
 obtain ⟨hi,ha⟩:=hi
 rcases Nat.lt_or_ge i p.order.length with hlt | hge
 · have hga:(p.order.map PE.sv)[i]?=some (PE.sv p.order[i]):=by rw [List.getElem?_map,List.getElem?_eq_getElem hlt];rfl
   have hmem:p.order[i].1∈p.parts:=PlanOf.mem_order (List.getElem_mem hlt)
   have hE:=ih _ hmem env1 (hb1 _ hmem) hr1
   have hst:=all_take (p:=isT c env1) hlt
   rw [ha,Bool.true_and] at hst
   have hno:=all_no (p:=isT c env1) hlt
   generalize p.order[i]=x at hga hE hst hno
   cases ho:PE.ty c env1 x.1 with
   | none =>
     rw [ho] at hE
     have hn2:PE.tyO c env1 p.order=false:=by rw [tyO_all2];exact hno (by simp only [isT,ho];rfl)
     simp only [hn2,Bool.false_eq_true,if_false]
     repeat' first |(refine kOps ?_;first |(refine LOps.nil ?_) |(refine LOps.ev tT_ok rfl ?_) |(refine kBsl ?_;first |(refine LOps.bsl0 tT_ok rfl rfl rfl rfl rfl ?_)) |(refine kLoad ?_;first |(refine LOps.ans (AnsL.loadP tT_ok rfl rfl rfl rfl) ?_)) |(refine kLen ?_;first |(refine LOps.ans (AnsL.lenM tT_ok rfl rfl rfl) ?_))) |(refine kWL ?_;first |(refine WL.seq ?_) |(refine WL.region (by kernel_rfl) ?_) |(refine WL.drawn (id:=16) [0,1,2,3,4,5,6,7,8,9,10,11,12,13] [] [[],[],[],[2],[],[2,3,4],[2,3,4,5],[2,3,4,5,6],[0,1,2,3,4,5,6,7],[0,1,2,3,4,5,6,7,8],[0,1,2,3,4,5,6,7,8,9],[0,1,2,3,4,5,6,7,8,9],[0,1,2,3,4,5,6,7,8,9,10],[0,1,2,3,4,5,6,7,8,9,10,11,12]] (by kernel_rfl) (by kernel_rfl) ?_) |(refine WL.block ?_) |(refine WL.skip ?_) |(refine WL.ret ?_) |(refine kCond ?_;first |(refine WL.condT rfl ?_) |(refine WL.condT' rfl ?_ ?_;(focus (first |(simp <;> omega)))))) |(refine kDr ?_;first |(refine LDr.nil ?_) |(refine LDr.fl rfl rfl (.ev tT_ok rfl) ?_) |(refine kDLoad rfl ?_;first |(refine LDr.fl rfl rfl (AnsL.loadP tT_ok rfl rfl rfl rfl) ?_)) |(refine kDIdx rfl ?_;first |(refine LDr.fl rfl rfl (AnsL.idx tT_ok rfl rfl rfl rfl rfl hga rfl rfl) ?_)) |(refine kDCallN 27 rfl ?_;first |(refine LDr.fl rfl rfl (AnsL.callP rfl rfl rfl (ok27) (hE _)) ?_))) |(refine lthen_n ?_) |(refine lthen_r ?_) |(refine lblock_r ?_) |(refine lbackD_r ?_) |(refine LPost.r2 (r := .tmp 6) (r' := .tmp 7) (.inl rfl) (Res1.tmp rfl) (Res1.tmp rfl) ?_) |(refine PureR.mk ?_)
     rfl
   | some t =>
     rw [ho] at hE
     have hs:isT c env1 x=true:=by simp only [isT,ho];rfl
     rw [hs] at hst
     repeat' first |(refine kOps ?_;first |(refine LOps.nil ?_) |(refine LOps.ev tT_ok rfl ?_) |(refine kLoad ?_;first |(refine LOps.ans (AnsL.loadP tT_ok rfl rfl rfl rfl) ?_)) |(refine kLen ?_;first |(refine LOps.ans (AnsL.lenM tT_ok rfl rfl rfl) ?_)) |(refine kBin ?_;first |(refine LOps.ans (AnsL.add rfl rfl ?_) ?_;(focus (constructor <;> omega))))) |(refine kWL ?_;first |(refine WL.seq ?_) |(refine WL.region (by kernel_rfl) ?_) |(refine WL.drawn (id:=16) [0,1,2,3,4,5,6,7,8,9,10,11,12,13] [] [[],[],[],[2],[],[2,3,4],[2,3,4,5],[2,3,4,5,6],[0,1,2,3,4,5,6,7],[0,1,2,3,4,5,6,7,8],[0,1,2,3,4,5,6,7,8,9],[0,1,2,3,4,5,6,7,8,9],[0,1,2,3,4,5,6,7,8,9,10],[0,1,2,3,4,5,6,7,8,9,10,11,12]] (by kernel_rfl) (by kernel_rfl) ?_) |(refine WL.block ?_) |(refine WL.skip ?_) |(refine kCond ?_;first |(refine WL.condF rfl ?_) |(refine WL.condT' rfl ?_ ?_;(focus (first |(simp <;> omega)))))) |(refine kDr ?_;first |(refine LDr.nil ?_) |(refine LDr.fl rfl rfl (.ev tT_ok rfl) ?_) |(refine kDLoad rfl ?_;first |(refine LDr.fl rfl rfl (AnsL.loadP tT_ok rfl rfl rfl rfl) ?_)) |(refine kDIdx rfl ?_;first |(refine LDr.fl rfl rfl (AnsL.idx tT_ok rfl rfl rfl rfl rfl hga rfl rfl) ?_)) |(refine kDCallN 27 rfl ?_;first |(refine LDr.fl rfl rfl (AnsL.callP rfl rfl rfl (ok27) (hE _)) ?_))) |(refine lthen_n ?_) |(refine lblock_n ?_)
     all_goals
       refine lbackD.of (i+1) ?_ ?_ ?_ ?_
       · first | omega |(refine ⟨?_,?_⟩;(focus (first | omega |(simp;omega)));(first | omega |(simp_all [hst] <;> fail) |(simp_all [hst];omega))) |(simp_all [hst] <;> fail) |(simp_all [hst];omega)
       · first | omega |(simp;omega) | simp_all
       · repeat' first
           | exact SubL.nil
           |(refine SubL.mk rfl ?_ ?_)
           | rfl
           |(simp [hst] <;> fail)
           |(simp [hst];omega)
       · first | rfl |(simp [hst] <;> fail) |(simp [hst];omega)
 rw [List.take_of_length_le hge] at ha
 have hn2:PE.tyO c env1 p.order=true:=by rw [tyO_all2];exact ha
 simp only [hn2,if_true]
 repeat' first |(refine kOps ?_;first |(refine LOps.nil ?_) |(refine LOps.ev tT_ok rfl ?_) |(refine kBsl ?_;first |(refine LOps.bsl0 tT_ok rfl rfl rfl rfl rfl ?_)) |(refine kLoad ?_;first |(refine LOps.ans (AnsL.loadP tT_ok rfl rfl rfl rfl) ?_)) |(refine kLen ?_;first |(refine LOps.ans (AnsL.lenM tT_ok rfl rfl rfl) ?_))) |(refine kWL ?_;first |(refine WL.seq ?_) |(refine WL.region (by kernel_rfl) ?_) |(refine WL.block ?_) |(refine WL.exit ?_) |(refine kCond ?_;first |(refine WL.condF' rfl ?_ ?_;(focus (first |(simp <;> omega)))))) |(refine lthen_n ?_) |(refine lthen_e ?_) |(refine lblock_e ?_) |(refine lbackD_e ?_)
 refine WL.zfam (t:=17) 1 rfl rfl rfl rfl ?_
 refine WL.loopD (fun x:Nat × List Int=>p.items.length - x.1) (fun x=>[(13,envV env1),(3,.ptr (s.next+0) 0),(5,.ptr (s.next+1) 0),(17,.sl (s.next+2) (x.2.map iV)),(18,.int .i64 (x.1:Int))]) (fun x=>[.var [.sl 0 (c.tables.map Tab.toV)],.var p.v.cells,.fam x.2.length 1])
   (fun x=>x.1≤p.items.length∧PE.tyL c env1 (p.items.take x.1)=some x.2) 3 (0,[]) ⟨by simp,by simp [PE.tyL]⟩ (fun _=>rfl) ⟨rfl,rfl,rfl,rfl,rfl,trivial⟩ rfl (fun i hi=>?_) (fun i hi=>?_)
 · simp [UnderK,UnderX,Own.under,V.under,V.underL,PL.v,V.cells,envV]
 obtain ⟨i,ts⟩:=i
 obtain ⟨hi,ht⟩:=hi
 try dsimp only at hi ht ⊢
 have htl:=PE.tyL_len c env1 ht
 rw [List.length_take] at htl
 rcases Nat.lt_or_ge i p.items.length with hlt | hge
 · have hga:(p.items.map PE.toV)[i]?=some (PE.v p.items[i]):=by rw [List.getElem?_map,List.getElem?_eq_getElem hlt];simp only [Option.map_some,PE.toV_eq]
   have hmem:p.items[i]∈p.parts:=PlanOf.mem_items (List.getElem_mem hlt)
   have hE:=ih _ hmem env1 (hb1 _ hmem) hr1
   have hn:=fun h=>PE.tyL_take_none hlt ht h
   have hs:=fun t h=>PE.tyL_take_some (t:=t) hlt ht h
   generalize p.items[i]=x at hga hE hn hs
   cases ho:PE.ty c env1 x with
   | none =>
     rw [ho] at hE
     rw [hn ho]
     repeat' first |(refine kOps ?_;first |(refine LOps.nil ?_) |(refine LOps.ev tT_ok rfl ?_) |(refine kBsl ?_;first |(refine LOps.bsl0 tT_ok rfl rfl rfl rfl rfl ?_)) |(refine kLoad ?_;first |(refine LOps.ans (AnsL.loadP tT_ok rfl rfl rfl rfl) ?_)) |(refine kLen ?_;first |(refine LOps.ans (AnsL.lenM tT_ok rfl rfl rfl) ?_))) |(refine kWL ?_;first |(refine WL.seq ?_) |(refine WL.region (by kernel_rfl) ?_) |(refine WL.drawn (id:=23) [0,1,2,3,4,5,6,7,8,9,10,11,12] [] [[],[],[],[2],[],[2,3,4],[2,3,4,5],[0,1,2,3,4,5,6],[0,1,2,3,4,5,6,7],[0,1,2,3,4,5,6,7,8],[0,1,2,3,4,5,6,7,8],[0,1,2,3,4,5,6,7,8,9],[0,1,2,3,4,5,6,7,8,9,10,11]] (by kernel_rfl) (by kernel_rfl) ?_) |(refine WL.block ?_) |(refine WL.skip ?_) |(refine WL.ret ?_) |(refine kCond ?_;first |(refine WL.condT rfl ?_) |(refine WL.condT' rfl ?_ ?_;(focus (first |(simp <;> omega)))))) |(refine kDr ?_;first |(refine LDr.nil ?_) |(refine LDr.fl rfl rfl (.ev tT_ok rfl) ?_) |(refine kDLoad rfl ?_;first |(refine LDr.fl rfl rfl (AnsL.loadP tT_ok rfl rfl rfl rfl) ?_)) |(refine kDIdx rfl ?_;first |(refine LDr.fl rfl rfl (AnsL.idx tT_ok rfl rfl rfl rfl rfl hga rfl rfl) ?_)) |(refine kDCallN 27 rfl ?_;first |(refine LDr.fl rfl rfl (AnsL.callP rfl rfl rfl (ok27) (hE _)) ?_))) |(refine lthen_n ?_) |(refine lthen_r ?_) |(refine lblock_r ?_) |(refine lbackD_r ?_) |(refine LPost.r2 (r := .tmp 6) (r' := .tmp 7) (.inl rfl) (Res1.tmp rfl) (Res1.tmp rfl) ?_) |(refine PureR.mk ?_)
     rfl
   | some t =>
     rw [ho] at hE
     have hs:=hs t ho
     repeat' first |(refine kOps ?_;first |(refine LOps.nil ?_) |(refine LOps.ev tT_ok rfl ?_) |(refine kBsl ?_;first |(refine LOps.bsl tT_ok rfl rfl rfl rfl rfl rfl rfl rfl rfl rfl rfl ?_)) |(refine kApp ?_;first |(refine LOps.app tT_ok rfl rfl rfl rfl rfl rfl rfl rfl rfl rfl rfl ?_ ?_ (AppB.of ?_ rfl) ?_;(focus (first | rfl |(simp <;> fail)));(focus (first | exact Elems.of rfl | exact Elems.map fun _=>rfl | exact PE.els _ (fun _=>rfl) _));(focus (first | omega |(simp;omega))))) |(refine kLoad ?_;first |(refine LOps.ans (AnsL.loadP tT_ok rfl rfl rfl rfl) ?_)) |(refine kLen ?_;first |(refine LOps.ans (AnsL.lenM tT_ok rfl rfl rfl) ?_)) |(refine kBin ?_;first |(refine LOps.ans (AnsL.add rfl rfl ?_) ?_;(focus (constructor <;> omega))))) |(refine kWL ?_;first |(refine WL.seq ?_) |(refine WL.region (by kernel_rfl) ?_) |(refine WL.drawn (id:=23) [0,1,2,3,4,5,6,7,8,9,10,11,12] [] [[],[],[],[2],[],[2,3,4],[2,3,4,5],[0,1,2,3,4,5,6],[0,1,2,3,4,5,6,7],[0,1,2,3,4,5,6,7,8],[0,1,2,3,4,5,6,7,8],[0,1,2,3,4,5,6,7,8,9],[0,1,2,3,4,5,6,7,8,9,10,11]] (by kernel_rfl) (by kernel_rfl) ?_) |(refine WL.block ?_) |(refine WL.skip ?_) |(refine kCond ?_;first |(refine WL.condF rfl ?_) |(refine WL.condT' rfl ?_ ?_;(focus (first |(simp <;> omega)))))) |(refine kDr ?_;first |(refine LDr.nil ?_) |(refine LDr.fl rfl rfl (.ev tT_ok rfl) ?_) |(refine kDLoad rfl ?_;first |(refine LDr.fl rfl rfl (AnsL.loadP tT_ok rfl rfl rfl rfl) ?_)) |(refine kDIdx rfl ?_;first |(refine LDr.fl rfl rfl (AnsL.idx tT_ok rfl rfl rfl rfl rfl hga rfl rfl) ?_)) |(refine kDCallN 27 rfl ?_;first |(refine LDr.fl rfl rfl (AnsL.callP rfl rfl rfl (ok27) (hE _)) ?_))) |(refine lthen_n ?_) |(refine lblock_n ?_)
     refine lbackD.of (i+1,ts++[t]) ⟨hlt,hs⟩ (by show p.items.length - (i+1)<p.items.length - i;omega) ?_ ?_
     · rw [List.map_append]
       repeat' first | exact SubL.nil |(refine SubL.mk rfl ?_ ?_) | rfl |(simp <;> fail) |(simp;omega)
     · simp [PL.v,V.cells]
 · rw [List.take_of_length_le hge] at ht
   rw [ht]
   repeat' first |(refine kOps ?_;first |(refine LOps.nil ?_) |(refine LOps.ev tT_ok rfl ?_) |(refine kLoad ?_;first |(refine LOps.ans (AnsL.loadP tT_ok rfl rfl rfl rfl) ?_)) |(refine kLen ?_;first |(refine LOps.ans (AnsL.lenM tT_ok rfl rfl rfl) ?_))) |(refine kWL ?_;first |(refine WL.seq ?_) |(refine WL.region (by kernel_rfl) ?_) |(refine WL.exit ?_) |(refine WL.ret ?_) |(refine kCond ?_;first |(refine WL.condF' rfl ?_ ?_;(focus (first |(simp <;> omega)))))) |(refine lthen_n ?_) |(refine lthen_e ?_) |(refine lblock_e ?_) |(refine lbackD_e ?_) |(refine LPost.r2 (r := .tmp 6) (r' := .tmp 7) (.inl rfl) (Res1.tmp rfl) (Res1.tmp rfl) ?_) |(refine PureR.mk ?_)
   simp [typesV,ints,V.forget,V.forgetL]
end Go.Proofs.Ytolhegocbkckdaa
