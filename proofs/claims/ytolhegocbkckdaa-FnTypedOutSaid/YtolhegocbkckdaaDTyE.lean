/-
 The types of plans' trees and plans, of the program: the parts. Own work; no condition.
-/
import Derived.Test.YtolhegocbkckdaaDTyD
namespace Go.Proofs.Ytolhegocbkckdaa
open Go
set_option linter.unusedSimpArgs false
set_option linter.unusedVariables false
theorem LOps.callNew {P:Program} {N:Nat} {ops:Array Oper} {l:List Oper} {K:Kn→S→Prop} {L:Kn} {s:S} {xs ys:List Own} {d:Nat} {ty:TypeId} {p:String} {a:Array Edge} {f:Operand} {g:FuncId} {args:Array Operand} {A:Array TypeId} {vs us:List V} {n sz:Nat} (hf:opd L f=some (.fn g [])) (ha:opdL L args.toList=some vs) (hok:CallOk P g) (hl:lenO xs=some n) (hs:snocO xs (.fam us.length sz)=some ys)
   (hc:∀ t,VCalls P g vs t (fun v t'=>(us=[]∧v = .nilsl∧t'=t.ext [])∨(v = .sl t.next us∧t'=t.ext [.fam us.length sz])))
   (hk1:us=[]→LOps P N ops l K ((d,.nilsl)::L) (s.ext xs)) (hk2:LOps P N ops l K ((d,.sl (s.next+n) us)::L) (s.ext ys)):LOps P N ops (⟨some d,.call ⟨.value f,args,A⟩,ty,p,a,none⟩::l) K L (s.ext xs):=by
 refine .call hf ha (appO_nil _) hok (hc (s.ext xs)) fun v t' h=>?_
 rcases h with ⟨h0,rfl,rfl⟩ | ⟨rfl,rfl⟩
 · rw [ext_ext,List.append_nil];exact hk1 h0
 · rw [ext_next,lenO_eq hl,ext_ext, ← snocO_eq hs];exact hk2
theorem cloneInt_n (l:List Int) (h:l.length≤16777216) (s:S):VCalls Try.prog 111 [ints l] s (fun v t=>(l.map iV=[]∧v = .nilsl∧t=s.ext [])∨(v = .sl s.next (l.map iV)∧t=s.ext [.fam (l.map iV).length 1])):=by
 refine LCalls.body Try.func111 rfl (by kernel_rfl) ?_
 repeat' first |(refine WL.regionNil tT_ok rfl rfl rfl rfl (fun b hb=>?_) ;cases b) |(refine kOps ?_;first |(refine LOps.nil ?_) |(refine LOps.ev tT_ok rfl ?_) |(refine kBsl ?_;first |(refine LOps.bsl0 tT_ok rfl rfl rfl rfl rfl ?_)) |(refine kApp ?_;first |(refine LOps.app0 tT_ok rfl rfl rfl rfl rfl rfl rfl rfl rfl rfl rfl ?_ (AppB.of ?_ rfl) ?_;(focus (first | exact Elems.of rfl | exact Elems.map fun _=>rfl | exact PE.els _ (fun _=>rfl) _));(focus (first | omega |(simp;omega)))))) |(refine kWL ?_;first |(refine WL.seq ?_) |(refine WL.region (by kernel_rfl) ?_) |(refine WL.skip ?_) |(refine WL.ret ?_) |(refine kCond ?_;first |(refine WL.condT rfl ?_) |(refine WL.condF rfl ?_))) |(refine lthen_n ?_) |(refine lthen_r ?_) |(refine LPost.r1 (r := .tmp 2) (.inl rfl) (Res1.tmp rfl) ?_)
 · exact .inr ⟨rfl,rfl⟩
 · have hr:l=[]:=by
     cases l with
     | nil=>rfl
     | cons x r=>exact absurd (hb rfl) (by simp [ints])
   subst hr
   exact .inl ⟨rfl,rfl,rfl⟩
def resK (e:PE) (ts ss:List Int):Option Int:=if e.kind=1 then some e.value.kind else if e.kind=3 then optT (unT2 e.op (ts.headD 0)) else if e.kind=4 then optT (binT e.op (ts.headD 0) ((ts.drop 1).headD 0)) else if e.kind=5∨e.kind=9 then some 3 else (meetL 0 (ts++ss)).map fun _=>3
theorem implresultType_v (e:PE) (ts ss:List Int) (h1:ts.length≤4194304) (h2:ss.length≤4194304) (h3:e.kind=3→ts.length=1) (h4:e.kind=4→ts.length=2) (s:S):VCalls Try.prog 65 [e.v,ints ts,ints ss] s (fun v s'=>v=optV (resK e ts ss)∧s'=s):=by
 by_cases k1:e.kind=1
 · rw [show resK e ts ss=some e.value.kind by simp [resK,k1]]
   refine LCalls.pure Try.func65 rfl (by kernel_rfl) (by simp) ?_
   repeat' first |(refine kOps ?_;first |(refine LOps.nil ?_) |(refine LOps.ev tT_ok rfl ?_) |(refine kBox ?_;refine LOps.box rfl rfl rfl rfl ?_) |(refine kLoad ?_;first |(refine LOps.ans (AnsL.loadP tT_ok rfl rfl rfl rfl) ?_))) |(refine kWL ?_;first |(refine WL.seq ?_) |(refine WL.region (by kernel_rfl) ?_) |(refine WL.block ?_) |(refine WL.ret ?_) |(refine kCond ?_;first |(refine WL.condT' rfl ?_ ?_;(focus (first |(exact decide_eq_true (by assumption))))))) |(refine lthen_n ?_) |(refine lthen_r ?_) |(refine lblock_r ?_) |(refine LPost.r2 (r := .tmp 6) (r' := .tmp 7) (.inl rfl) (Res1.tmp rfl) (Res1.tmp rfl) ?_) |(refine PureR.mk ?_)
   rfl
 by_cases k3:e.kind=3
 · obtain ⟨x,rfl⟩:=List.length_eq_one_iff.1 (h3 k3)
   rw [show resK e [x] ss=optT (unT2 e.op x) by simp [resK,k3]]
   have hU:=fun t=>implUnType_t e.op x t
   have hg:([x].map iV)[0]?=some (iV x):=rfl
   refine LCalls.pure Try.func65 rfl (by kernel_rfl) (by simp) ?_
   repeat' first |(refine kOps ?_;first |(refine LOps.nil ?_) |(refine LOps.ev tT_ok rfl ?_) |(refine kBox ?_;refine LOps.box rfl rfl rfl rfl ?_) |(refine kLoad ?_;first |(refine LOps.ans (AnsL.loadP tT_ok rfl rfl rfl rfl) ?_))) |(refine kWL ?_;first |(refine WL.seq ?_) |(refine WL.region (by kernel_rfl) ?_) |(refine WL.drawn (id:=5) [0,1,2,3,4,5,6,7,8,9] [] [[],[0],[],[2],[2,3],[0,1,2,3,4],[0,1,2,3,4,5],[0,1,2,3,4,5],[0,1,2,3,4,5,6,7],[0,1,2,3,4,5,6,7,8]] (by kernel_rfl) (by kernel_rfl) ?_) |(refine WL.block ?_) |(refine WL.ret ?_) |(refine kCond ?_;first |(refine WL.condT' rfl ?_ ?_;(focus (first |(exact decide_eq_true (by assumption))))) |(refine WL.condF' rfl ?_ ?_;(focus (first |(exact decide_eq_false (by assumption))))))) |(refine kDr ?_;first |(refine LDr.nil ?_) |(refine LDr.fl rfl rfl (.ev tT_ok rfl) ?_) |(refine kDLoad rfl ?_;first |(refine LDr.fl rfl rfl (AnsL.loadP tT_ok rfl rfl rfl rfl) ?_)) |(refine kDIdx rfl ?_;first |(refine LDr.fl rfl rfl (AnsL.idx (j:=0) tT_ok rfl rfl rfl rfl rfl hg rfl rfl) ?_)) |(refine kDCallN 108 rfl ?_;first |(refine LDr.fl rfl rfl (AnsL.callP rfl rfl rfl (ok108) (hU _)) ?_))) |(refine lthen_n ?_) |(refine lthen_r ?_) |(refine lblock_r ?_) |(refine LPost.r2 (r := .tmp 6) (r' := .tmp 7) (.inl rfl) (Res1.tmp rfl) (Res1.tmp rfl) ?_) |(refine PureR.mk ?_)
   all_goals (simp [optV_un,tyV,V.forget,V.forgetL];done)
 by_cases k4:e.kind=4
 · obtain ⟨x,y,rfl⟩:=len_two (h4 k4)
   rw [show resK e [x,y] ss=optT (binT e.op x y) by simp [resK,k4]]
   have hU:=fun t=>implBinType_t e.op x y t
   have hg:([x,y].map iV)[0]?=some (iV x):=rfl
   have hg2:([x,y].map iV)[1]?=some (iV y):=rfl
   refine LCalls.pure Try.func65 rfl (by kernel_rfl) (by simp) ?_
   repeat' first |(refine kOps ?_;first |(refine LOps.nil ?_) |(refine LOps.ev tT_ok rfl ?_) |(refine kBox ?_;refine LOps.box rfl rfl rfl rfl ?_) |(refine kLoad ?_;first |(refine LOps.ans (AnsL.loadP tT_ok rfl rfl rfl rfl) ?_))) |(refine kWL ?_;first |(refine WL.seq ?_) |(refine WL.region (by kernel_rfl) ?_) |(refine WL.drawn (id:=7) [0,1,2,3,4,5,6,7,8,9,10,11,12] [] [[],[0],[],[2],[2,3],[],[5],[5,6],[0,1,2,3,4,5,6,7],[0,1,2,3,4,5,6,7,8],[0,1,2,3,4,5,6,7,8],[0,1,2,3,4,5,6,7,8,9,10],[0,1,2,3,4,5,6,7,8,9,10,11]] (by kernel_rfl) (by kernel_rfl) ?_) |(refine WL.block ?_) |(refine WL.ret ?_) |(refine kCond ?_;first |(refine WL.condT' rfl ?_ ?_;(focus (first |(exact decide_eq_true (by assumption))))) |(refine WL.condF' rfl ?_ ?_;(focus (first |(exact decide_eq_false (by assumption))))))) |(refine kDr ?_;first |(refine LDr.nil ?_) |(refine LDr.fl rfl rfl (.ev tT_ok rfl) ?_) |(refine kDLoad rfl ?_;first |(refine LDr.fl rfl rfl (AnsL.loadP tT_ok rfl rfl rfl rfl) ?_)) |(refine kDIdx rfl ?_;first |(refine LDr.fl rfl rfl (AnsL.idx (j:=0) tT_ok rfl rfl rfl rfl rfl hg rfl rfl) ?_) |(refine LDr.fl rfl rfl (AnsL.idx (j:=1) tT_ok rfl rfl rfl rfl rfl hg2 rfl rfl) ?_)) |(refine kDCallN 109 rfl ?_;first |(refine LDr.fl rfl rfl (AnsL.callP rfl rfl rfl (ok109) (hU _)) ?_))) |(refine lthen_n ?_) |(refine lthen_r ?_) |(refine lblock_r ?_) |(refine LPost.r2 (r := .tmp 6) (r' := .tmp 7) (.inl rfl) (Res1.tmp rfl) (Res1.tmp rfl) ?_) |(refine PureR.mk ?_)
   all_goals (simp [optV_bin,tyV,V.forget,V.forgetL];done)
 by_cases k5:e.kind=5
 · rw [show resK e ts ss=some 3 by simp [resK,k5]]
   refine LCalls.pure Try.func65 rfl (by kernel_rfl) (by simp) ?_
   repeat' first |(refine kOps ?_;first |(refine LOps.nil ?_) |(refine LOps.ev tT_ok rfl ?_) |(refine kBox ?_;refine LOps.box rfl rfl rfl rfl ?_) |(refine kLoad ?_;first |(refine LOps.ans (AnsL.loadP tT_ok rfl rfl rfl rfl) ?_))) |(refine kWL ?_;first |(refine WL.seq ?_) |(refine WL.region (by kernel_rfl) ?_) |(refine WL.block ?_) |(refine WL.skip ?_) |(refine WL.ret ?_) |(refine kCond ?_;first |(refine WL.condT' rfl ?_ ?_;(focus (first |(exact decide_eq_true (by assumption))))) |(refine WL.condF' rfl ?_ ?_;(focus (first |(exact decide_eq_false (by assumption))))))) |(refine lthen_n ?_) |(refine lthen_r ?_) |(refine lblock_r ?_) |(refine LPost.r2 (r := .tmp 6) (r' := .tmp 7) (.inl rfl) (Res1.tmp rfl) (Res1.tmp rfl) ?_) |(refine PureR.mk ?_)
   rfl
 by_cases k9:e.kind=9
 · rw [show resK e ts ss=some 3 by simp [resK,k9]]
   refine LCalls.pure Try.func65 rfl (by kernel_rfl) (by simp) ?_
   repeat' first |(refine kOps ?_;first |(refine LOps.nil ?_) |(refine LOps.ev tT_ok rfl ?_) |(refine kBox ?_;refine LOps.box rfl rfl rfl rfl ?_) |(refine kLoad ?_;first |(refine LOps.ans (AnsL.loadP tT_ok rfl rfl rfl rfl) ?_))) |(refine kWL ?_;first |(refine WL.seq ?_) |(refine WL.region (by kernel_rfl) ?_) |(refine WL.block ?_) |(refine WL.ret ?_) |(refine kCond ?_;first |(refine WL.condT' rfl ?_ ?_;(focus (first |(exact decide_eq_true (by assumption))))) |(refine WL.condF' rfl ?_ ?_;(focus (first |(exact decide_eq_false (by assumption))))))) |(refine lthen_n ?_) |(refine lthen_r ?_) |(refine lblock_r ?_) |(refine LPost.r2 (r := .tmp 6) (r' := .tmp 7) (.inl rfl) (Res1.tmp rfl) (Res1.tmp rfl) ?_) |(refine PureR.mk ?_)
   rfl
 rw [show resK e ts ss=(meetL 0 (ts++ss)).map fun _=>3 by simp [resK,k1,k3,k4,k5,k9],optV_map]
 have hC:=fun t=>cloneInt_n ts (by omega) t
 have hM:∀ id t,VCalls Try.prog 110 [.sl id (ts.map iV++ss.map iV)] t (fun v t'=>v=optV (meetL 0 (ts++ss))∧t'=t):=fun id t=>VCalls.forget (by
   rw [show List.map V.forget [V.sl id (ts.map iV++ss.map iV)]=[ints (ts++ss)] by simp [V.forget,V.forgetL_eq,ints,Function.comp_def]]
   exact implmeetAll_v (ts++ss) (by simp;omega) t)
 have hM0:ts.map iV=[]→∀ id t,VCalls Try.prog 110 [.sl id (ss.map iV)] t (fun v t'=>v=optV (meetL 0 (ts++ss))∧t'=t):=fun h id t=>by
   have:=hM id t
   rw [h] at this
   exact this
 generalize meetL 0 (ts++ss)=o at hM hM0 ⊢
 cases o
 all_goals
   refine LCalls.pure Try.func65 rfl (by kernel_rfl) (by simp) ?_
   repeat' first |(refine kCallN 111 ?_ ;refine LOps.callNew rfl rfl ok111 rfl rfl hC (fun h0=>?_) ?_) |(refine kOps ?_;first |(refine LOps.nil ?_) |(refine LOps.ev tT_ok rfl ?_) |(refine kBox ?_;refine LOps.box rfl rfl rfl rfl ?_) |(refine kApp ?_;first |(refine LOps.app tT_ok rfl rfl rfl rfl rfl rfl rfl rfl rfl rfl rfl ?_ ?_ (AppB.of ?_ rfl) ?_;(focus (first | rfl));(focus (first | exact Elems.of rfl | exact Elems.map fun _=>rfl | exact PE.els _ (fun _=>rfl) _));(focus (first | omega |(simp;omega)))) |(refine LOps.app0 tT_ok rfl rfl rfl rfl rfl rfl rfl rfl rfl rfl rfl ?_ (AppB.of ?_ rfl) ?_;(focus (first | exact Elems.of rfl | exact Elems.map fun _=>rfl | exact PE.els _ (fun _=>rfl) _));(focus (first | omega |(simp;omega))))) |(refine kLoad ?_;first |(refine LOps.ans (AnsL.loadP tT_ok rfl rfl rfl rfl) ?_)) |(refine kCallN 110 ?_;first |(refine LOps.ans (AnsL.callP rfl rfl rfl (ok110) (hM0 (by assumption) _ _)) ?_) |(refine LOps.ans (AnsL.callP rfl rfl rfl (ok110) (hM _ _)) ?_))) |(refine kWL ?_;first |(refine WL.seq ?_) |(refine WL.region (by kernel_rfl) ?_) |(refine WL.block ?_) |(refine WL.skip ?_) |(refine WL.ret ?_) |(refine kCond ?_;first |(refine WL.condT rfl ?_) |(refine WL.condF rfl ?_) |(refine WL.condF' rfl ?_ ?_;(focus (first |(exact decide_eq_false (by assumption))))))) |(refine lthen_n ?_) |(refine lthen_r ?_) |(refine lblock_n ?_) |(refine LPost.r2 (r := .tmp 6) (r' := .tmp 7) (.inl rfl) (Res1.tmp rfl) (Res1.tmp rfl) ?_) |(refine PureR.mk ?_)
   all_goals (simp [tyV,V.forget,V.forgetL];done)
theorem implareTruthy1_r (c:Cat) (env:List (List Int)) (x:PE) (hE:∀ s,VCalls Try.prog 26 [c.toV,envV env,x.v] s (fun v s'=>v=optV (x.ty c env)∧s'=s)) (l1 l2:Nat) (s:S) (h1:l1<s.next) (h2:l2<s.next) (v1:s.vars l1=some [.sl 0 (c.tables.map Tab.toV)]) (v2:s.vars l2=some [envV env]) :
   VCalls Try.prog 136 [x.v,.ptr l1 0,.ptr l2 0] s (fun v s'=>v = .bool (!truT c env x)∧s'=s):=by
 cases ho:PE.ty c env x with
 | none =>
   rw [ho] at hE
   rw [truT_none ho]
   refine LCalls.pure Try.func136 rfl (by kernel_rfl) (by simp) ?_
   repeat' first |(refine kOps ?_;first |(refine LOps.nil ?_) |(refine kG ?_;first |(refine LOps.gF rfl rfl rfl ?_)) |(refine LOps.ev tT_ok rfl ?_) |(refine kBox ?_;refine LOps.box rfl rfl rfl rfl ?_) |(refine kLoad ?_;first |(refine LOps.ans (AnsL.loadO tT_ok rfl h1 v1 rfl rfl) ?_) |(refine LOps.ans (AnsL.loadO tT_ok rfl h2 v2 rfl rfl) ?_) |(refine LOps.ans (AnsL.loadP tT_ok rfl rfl rfl rfl) ?_)) |(refine kCallN 26 ?_;first |(refine LOps.ans (AnsL.callP rfl rfl rfl (ok26) (hE _)) ?_))) |(refine kWL ?_;first |(refine WL.seq ?_) |(refine WL.region (by kernel_rfl) ?_) |(refine WL.ret ?_)) |(refine lthen_n ?_) |(refine LPost.r1 (r := .tmp 4) (.inl rfl) (Res1.tmp rfl) ?_) |(refine PureR.mk ?_)
   rfl
 | some t =>
   rw [ho] at hE
   rw [truT_some ho]
   have hT:=fun s=>implTruthy_t t s
   refine LCalls.pure Try.func136 rfl (by kernel_rfl) (by simp) ?_
   repeat' first |(refine kOps ?_;first |(refine LOps.nil ?_) |(refine kG ?_;first |(refine LOps.gT rfl rfl rfl ?_)) |(refine LOps.ev tT_ok rfl ?_) |(refine kBox ?_;refine LOps.box rfl rfl rfl rfl ?_) |(refine kLoad ?_;first |(refine LOps.ans (AnsL.loadO tT_ok rfl h1 v1 rfl rfl) ?_) |(refine LOps.ans (AnsL.loadO tT_ok rfl h2 v2 rfl rfl) ?_) |(refine LOps.ans (AnsL.loadP tT_ok rfl rfl rfl rfl) ?_)) |(refine kCallN 137 ?_;first |(refine LOps.ans (AnsL.callP rfl rfl rfl (ok137) (hT _)) ?_)) |(refine kCallN 26 ?_;first |(refine LOps.ans (AnsL.callP rfl rfl rfl (ok26) (hE _)) ?_))) |(refine kWL ?_;first |(refine WL.seq ?_) |(refine WL.region (by kernel_rfl) ?_) |(refine WL.ret ?_)) |(refine lthen_n ?_) |(refine LPost.r1 (r := .tmp 4) (.inl rfl) (Res1.tmp rfl) ?_) |(refine PureR.mk ?_)
   rfl
theorem implareTruthy_r (c:Cat) (l:List PE) (env:List (List Int)) (hl:l.length≤8388608) (hb:∀ k∈l,env.length+wgt k.v≤8388608) (hr:RowsOk env) (ih:∀ k∈l,TyC Try.prog 26 c k) (s:S):VCalls Try.prog 106 [c.toV,envV env,.sl 0 (l.map PE.toV)] s (fun v s'=>v = .bool (PE.tyT c env l)∧s'=s):=by
 have he:PE.tyT c env l = !(l.any fun x => !truT c env x):=by rw [tyT_all2,any_not,Bool.not_not]
 rw [he]
 have hE:∀ x∈l,∀ s,VCalls Try.prog 26 [c.toV,envV env,x.v] s (fun v s'=>v=optV (x.ty c env)∧s'=s):=fun x hx=>ih x hx env (hb x hx) hr
 refine LCalls.pure Try.func106 rfl (by kernel_rfl) (by simp) ?_
 repeat' first |(refine kOps ?_;first |(refine LOps.nil ?_) |(refine LOps.ev tT_ok rfl ?_) |(refine kBox ?_;refine LOps.box rfl rfl rfl rfl ?_) |(refine kCallN 73 ?_;first |(refine LOps.ans (AnsL.callP rfl rfl rfl (ok73) (containsFuncPExpr_v l (fun x => !truT c env x) _ _ ?_ _ ok136 ?_ ?_)) ?_;(focus (omega));(focus (simp [V.underL,V.under]));(focus (exact fun x hx ys=>implareTruthy1_r c env x (hE x hx) _ _ _ (by simp) (by simp) (by simp) (by simp [envV])))))) |(refine kWL ?_;first |(refine WL.seq ?_) |(refine WL.region (by kernel_rfl) ?_) |(refine WL.ret ?_)) |(refine lthen_n ?_) |(refine LPost.r1 (r := .tmp 6) (.inl rfl) (Res1.tmp rfl) ?_) |(refine PureR.mk ?_)
 rfl
end Go.Proofs.Ytolhegocbkckdaa
