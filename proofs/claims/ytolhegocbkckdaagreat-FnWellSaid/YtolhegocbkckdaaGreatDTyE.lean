/-
 The types of plans' trees and plans, of the program: the parts. Own work; no condition.
-/
import Derived.Test.YtolhegocbkckdaaGreatDTyD
namespace Go.Proofs.YtolhegocbkckdaaGreat
open Go
set_option linter.unusedSimpArgs false
set_option linter.unusedVariables false
theorem zq.Cm {P:Program} {N:Nat} {ops:Array Oper} {l:List Oper} {K:Kn→S→Prop} {L:Kn} {s:S} {xs ys:List Own} {d:Nat} {ty:TypeId} {p:String} {a:Array Edge} {f:Operand} {g:FuncId} {args:Array Operand} {A:Array TypeId} {vs us:List V} {n sz:Nat} (hf:jf L f=some (.fn g [])) (ha:uE L args.toList=some vs) (hok:zW P g) (hl:Xf xs=some n) (hs:nY xs (.fam us.length sz)=some ys)
   (hc:∀ t,VCalls P g vs t (fun v t'=>(us=[]∧v = .zl∧t'=t.ext [])∨(v = .sl t.next us∧t'=t.ext [.fam us.length sz])))
   (hk1:us=[]→zq P N ops l K ((d,.zl)::L) (s.ext xs)) (hk2:zq P N ops l K ((d,.sl (s.next+n) us)::L) (s.ext ys)):zq P N ops (⟨some d,.call ⟨.value f,args,A⟩,ty,p,a,none⟩::l) K L (s.ext xs):=by
 refine .call hf ha (uJ _) hok (hc (s.ext xs)) fun v t' h=>?_
 rcases h with ⟨h0,rfl,rfl⟩ | ⟨rfl,rfl⟩
 · rw [iQ,List.append_nil];exact hk1 h0
 · rw [q8,dN hl,iQ, ← aC hs];exact hk2
theorem VT (l:List Int) (h:l.length≤16777216) (s:S):VCalls Tryz.prog 93 [ints l] s (fun v t=>(l.map iV=[]∧v = .zl∧t=s.ext [])∨(v = .sl s.next (l.map iV)∧t=s.ext [.fam (l.map iV).length 1])):=by
 refine zi.body Tryz.func93 rfl (by kernel_rfl) ?_
 repeat' first|(refine WL.YN zx rfl rfl rfl rfl (fun b hb=>?_) ;cases b)|(refine zf ?_;first|(refine zq.nil ?_)|(refine zq.ev zx rfl ?_)|(refine kZ ?_;first|(refine zq.uT zx rfl rfl rfl rfl rfl ?_))|(refine ji ?_;first|(refine zq.app0 zx rfl rfl rfl rfl rfl rfl rfl rfl rfl rfl rfl ?_ (xU.of ?_ rfl) ?_;(focus (first | exact zS.of rfl | exact zS.map fun _=>rfl | exact PE.els _ (fun _=>rfl) _));(focus (first | omega |(simp;omega))))))|(refine zH ?_;first|(refine WL.seq ?_)|(refine WL.region (by kernel_rfl) ?_)|(refine WL.skip ?_)|(refine WL.ret ?_)|(refine zu ?_;first|(refine WL.qb rfl ?_)|(refine WL.qQ rfl ?_)))|(refine zw ?_)|(refine zZ ?_)|(refine zh.r1 (r := .tmp 2) (.inl rfl) (zn.tmp rfl) ?_)
 · exact .inr ⟨rfl,rfl⟩
 · have hr:l=[]:=by
     cases l with
     | nil=>rfl
     | cons x r=>exact absurd (hb rfl) (by simp [ints])
   subst hr
   exact .inl ⟨rfl,rfl,rfl⟩
def bg (e:PE) (ts ss:List Int):Option Int:=if e.kind=1 then some e.value.kind else if e.kind=3 then Js (Qd e.op (ts.headD 0)) else if e.kind=4 then Js (bH e.op (ts.headD 0) ((ts.drop 1).headD 0)) else if e.kind=5∨e.kind=9 then some 3 else (vW 0 (ts++ss)).map fun _=>3
theorem dB (e:PE) (ts ss:List Int) (h1:ts.length≤4194304) (h2:ss.length≤4194304) (h3:e.kind=3→ts.length=1) (h4:e.kind=4→ts.length=2) (s:S):VCalls Tryz.prog 60 [e.v,ints ts,ints ss] s (fun v s'=>v=eU (bg e ts ss)∧s'=s):=by
 by_cases k1:e.kind=1
 · rw [show bg e ts ss = some e.value.kind by simp [bg, k1]]
   refine zi.pure Tryz.func60 rfl (by kernel_rfl) (by simp) ?_
   repeat' first|(refine zf ?_;first|(refine zq.nil ?_)|(refine zq.ev zx rfl ?_)|(refine qW ?_;refine zq.box rfl rfl rfl rfl ?_)|(refine zo ?_;first|(refine zq.ans (zk.zm zx rfl rfl rfl rfl) ?_)))|(refine zH ?_;first|(refine WL.seq ?_)|(refine WL.region (by kernel_rfl) ?_)|(refine WL.block ?_)|(refine WL.ret ?_)|(refine zu ?_;first|(refine WL.zJ rfl ?_ ?_;(focus (first|(exact decide_eq_true (by assumption)))))))|(refine zw ?_)|(refine zZ ?_)|(refine zB ?_)|(refine zh.r2 (r := .tmp 6) (r' := .tmp 7) (.inl rfl) (zn.tmp rfl) (zn.tmp rfl) ?_)|(refine zX.mk ?_)
   rfl
 by_cases k3:e.kind=3
 · obtain ⟨x, rfl⟩ := List.length_eq_one_iff.1 (h3 k3)
   rw [show bg e [x] ss=Js (Qd e.op x) by simp [bg,k3]]
   have hU:=fun t=>X7 e.op x t
   have hg:([x].map iV)[0]?=some (iV x):=rfl
   refine zi.pure Tryz.func60 rfl (by kernel_rfl) (by simp) ?_
   repeat' first|(refine zf ?_;first|(refine zq.nil ?_)|(refine zq.ev zx rfl ?_)|(refine qW ?_;refine zq.box rfl rfl rfl rfl ?_)|(refine zo ?_;first|(refine zq.ans (zk.zm zx rfl rfl rfl rfl) ?_)))|(refine zH ?_;first|(refine WL.seq ?_)|(refine WL.region (by kernel_rfl) ?_)|(refine WL.drawn (id:=5) [0,1,2,3,4,5,6,7,8,9] [] [[],[0],[],[2],[2,3],[0,1,2,3,4],[0,1,2,3,4,5],[0,1,2,3,4,5],[0,1,2,3,4,5,6,7],[0,1,2,3,4,5,6,7,8]] (by kernel_rfl) (by kernel_rfl) ?_)|(refine WL.block ?_)|(refine WL.ret ?_)|(refine zu ?_;first|(refine WL.zJ rfl ?_ ?_;(focus (first|(exact decide_eq_true (by assumption)))))|(refine WL.zY rfl ?_ ?_;(focus (first|(exact decide_eq_false (by assumption)))))))|(refine vN ?_;first|(refine zA.nil ?_)|(refine zA.fl rfl rfl (.ev zx rfl) ?_)|(refine qo rfl ?_;first|(refine zA.fl rfl rfl (zk.zm zx rfl rfl rfl rfl) ?_))|(refine kQ rfl ?_;first|(refine zA.fl rfl rfl (zk.idx (j:=0) zx rfl rfl rfl rfl rfl hg rfl rfl) ?_))|(refine qX 90 rfl ?_;first|(refine zA.fl rfl rfl (zk.ze rfl rfl rfl (Oo) (hU _)) ?_)))|(refine zw ?_)|(refine zZ ?_)|(refine zB ?_)|(refine zh.r2 (r := .tmp 6) (r' := .tmp 7) (.inl rfl) (zn.tmp rfl) (zn.tmp rfl) ?_)|(refine zX.mk ?_)
   all_goals (simp [Ky,bP,V.forget,V.qE];done)
 by_cases k4:e.kind=4
 · obtain ⟨x, y, rfl⟩ := Kw (h4 k4)
   rw [show bg e [x,y] ss=Js (bH e.op x y) by simp [bg,k4]]
   have hU:=fun t=>Qe e.op x y t
   have hg:([x,y].map iV)[0]?=some (iV x):=rfl
   have hg2:([x,y].map iV)[1]?=some (iV y):=rfl
   refine zi.pure Tryz.func60 rfl (by kernel_rfl) (by simp) ?_
   repeat' first|(refine zf ?_;first|(refine zq.nil ?_)|(refine zq.ev zx rfl ?_)|(refine qW ?_;refine zq.box rfl rfl rfl rfl ?_)|(refine zo ?_;first|(refine zq.ans (zk.zm zx rfl rfl rfl rfl) ?_)))|(refine zH ?_;first|(refine WL.seq ?_)|(refine WL.region (by kernel_rfl) ?_)|(refine WL.drawn (id:=7) [0,1,2,3,4,5,6,7,8,9,10,11,12] [] [[],[0],[],[2],[2,3],[],[5],[5,6],[0,1,2,3,4,5,6,7],[0,1,2,3,4,5,6,7,8],[0,1,2,3,4,5,6,7,8],[0,1,2,3,4,5,6,7,8,9,10],[0,1,2,3,4,5,6,7,8,9,10,11]] (by kernel_rfl) (by kernel_rfl) ?_)|(refine WL.block ?_)|(refine WL.ret ?_)|(refine zu ?_;first|(refine WL.zJ rfl ?_ ?_;(focus (first|(exact decide_eq_true (by assumption)))))|(refine WL.zY rfl ?_ ?_;(focus (first|(exact decide_eq_false (by assumption)))))))|(refine vN ?_;first|(refine zA.nil ?_)|(refine zA.fl rfl rfl (.ev zx rfl) ?_)|(refine qo rfl ?_;first|(refine zA.fl rfl rfl (zk.zm zx rfl rfl rfl rfl) ?_))|(refine kQ rfl ?_;first|(refine zA.fl rfl rfl (zk.idx (j:=0) zx rfl rfl rfl rfl rfl hg rfl rfl) ?_)|(refine zA.fl rfl rfl (zk.idx (j:=1) zx rfl rfl rfl rfl rfl hg2 rfl rfl) ?_))|(refine qX 91 rfl ?_;first|(refine zA.fl rfl rfl (zk.ze rfl rfl rfl (Ot) (hU _)) ?_)))|(refine zw ?_)|(refine zZ ?_)|(refine zB ?_)|(refine zh.r2 (r := .tmp 6) (r' := .tmp 7) (.inl rfl) (zn.tmp rfl) (zn.tmp rfl) ?_)|(refine zX.mk ?_)
   all_goals (simp [ZG,bP,V.forget,V.qE];done)
 by_cases k5:e.kind=5
 · rw [show bg e ts ss = some 3 by simp [bg, k5]]
   refine zi.pure Tryz.func60 rfl (by kernel_rfl) (by simp) ?_
   repeat' first|(refine zf ?_;first|(refine zq.nil ?_)|(refine zq.ev zx rfl ?_)|(refine qW ?_;refine zq.box rfl rfl rfl rfl ?_)|(refine zo ?_;first|(refine zq.ans (zk.zm zx rfl rfl rfl rfl) ?_)))|(refine zH ?_;first|(refine WL.seq ?_)|(refine WL.region (by kernel_rfl) ?_)|(refine WL.block ?_)|(refine WL.skip ?_)|(refine WL.ret ?_)|(refine zu ?_;first|(refine WL.zJ rfl ?_ ?_;(focus (first|(exact decide_eq_true (by assumption)))))|(refine WL.zY rfl ?_ ?_;(focus (first|(exact decide_eq_false (by assumption)))))))|(refine zw ?_)|(refine zZ ?_)|(refine zB ?_)|(refine zh.r2 (r := .tmp 6) (r' := .tmp 7) (.inl rfl) (zn.tmp rfl) (zn.tmp rfl) ?_)|(refine zX.mk ?_)
   rfl
 by_cases k9:e.kind=9
 · rw [show bg e ts ss = some 3 by simp [bg, k9]]
   refine zi.pure Tryz.func60 rfl (by kernel_rfl) (by simp) ?_
   repeat' first|(refine zf ?_;first|(refine zq.nil ?_)|(refine zq.ev zx rfl ?_)|(refine qW ?_;refine zq.box rfl rfl rfl rfl ?_)|(refine zo ?_;first|(refine zq.ans (zk.zm zx rfl rfl rfl rfl) ?_)))|(refine zH ?_;first|(refine WL.seq ?_)|(refine WL.region (by kernel_rfl) ?_)|(refine WL.block ?_)|(refine WL.ret ?_)|(refine zu ?_;first|(refine WL.zJ rfl ?_ ?_;(focus (first|(exact decide_eq_true (by assumption)))))|(refine WL.zY rfl ?_ ?_;(focus (first|(exact decide_eq_false (by assumption)))))))|(refine zw ?_)|(refine zZ ?_)|(refine zB ?_)|(refine zh.r2 (r := .tmp 6) (r' := .tmp 7) (.inl rfl) (zn.tmp rfl) (zn.tmp rfl) ?_)|(refine zX.mk ?_)
   rfl
 rw [show bg e ts ss=(vW 0 (ts++ss)).map fun _=>3 by simp [bg,k1,k3,k4,k5,k9],oW]
 have hC:=fun t=>VT ts (by omega) t
 have hM:∀ id t,VCalls Tryz.prog 92 [.sl id (ts.map iV++ss.map iV)] t (fun v t'=>v=eU (vW 0 (ts++ss))∧t'=t):=fun id t=>VCalls.forget (by
   rw [show List.map V.forget [V.sl id (ts.map iV++ss.map iV)]=[ints (ts++ss)] by simp [V.forget,V.xL,ints,Function.comp_def]]
   exact Ql (ts++ss) (by simp;omega) t)
 have hM0:ts.map iV=[]→∀ id t,VCalls Tryz.prog 92 [.sl id (ss.map iV)] t (fun v t'=>v=eU (vW 0 (ts++ss))∧t'=t):=fun h id t=>by
   have:=hM id t
   rw [h] at this
   exact this
 generalize vW 0 (ts++ss)=o at hM hM0 ⊢
 cases o
 all_goals
   refine zi.pure Tryz.func60 rfl (by kernel_rfl) (by simp) ?_
   repeat' first|(refine zy 93 ?_;refine zq.Cm rfl rfl OZ rfl rfl hC (fun h0=>?_) ?_)|(refine zf ?_;first|(refine zq.nil ?_)|(refine zq.ev zx rfl ?_)|(refine qW ?_;refine zq.box rfl rfl rfl rfl ?_)|(refine ji ?_;first|(refine zq.app zx rfl rfl rfl rfl rfl rfl rfl rfl rfl rfl rfl ?_ ?_ (xU.of ?_ rfl) ?_;(focus (first | rfl));(focus (first | exact zS.of rfl | exact zS.map fun _=>rfl | exact PE.els _ (fun _=>rfl) _));(focus (first | omega |(simp;omega))))|(refine zq.app0 zx rfl rfl rfl rfl rfl rfl rfl rfl rfl rfl rfl ?_ (xU.of ?_ rfl) ?_;(focus (first | exact zS.of rfl | exact zS.map fun _=>rfl | exact PE.els _ (fun _=>rfl) _));(focus (first | omega |(simp;omega)))))|(refine zo ?_;first|(refine zq.ans (zk.zm zx rfl rfl rfl rfl) ?_))|(refine zy 92 ?_;first|(refine zq.ans (zk.ze rfl rfl rfl (Ho) (hM0 (by assumption) _ _)) ?_)|(refine zq.ans (zk.ze rfl rfl rfl (Ho) (hM _ _)) ?_)))|(refine zH ?_;first|(refine WL.seq ?_)|(refine WL.region (by kernel_rfl) ?_)|(refine WL.block ?_)|(refine WL.skip ?_)|(refine WL.ret ?_)|(refine zu ?_;first|(refine WL.qb rfl ?_)|(refine WL.qQ rfl ?_)|(refine WL.zY rfl ?_ ?_;(focus (first|(exact decide_eq_false (by assumption)))))))|(refine zw ?_)|(refine zZ ?_)|(refine zQ ?_)|(refine zh.r2 (r := .tmp 6) (r' := .tmp 7) (.inl rfl) (zn.tmp rfl) (zn.tmp rfl) ?_)|(refine zX.mk ?_)
   all_goals (simp [bP,V.forget,V.qE];done)
theorem pF (c:jy) (env:List (List Int)) (x:PE) (hE:∀ s,VCalls Tryz.prog 23 [c.zF,jH env,x.v] s (fun v s'=>v=eU (x.ty c env)∧s'=s)) (l1 l2:Nat) (s:S) (h1:l1<s.next) (h2:l2<s.next) (v1:s.vars l1=some [.sl 0 (c.tables.map Tab.zF)]) (v2:s.vars l2=some [jH env]) :
   VCalls Tryz.prog 57 [x.v,.ptr l1 0,.ptr l2 0] s (fun v s'=>v = .bool (!ZF c env x)∧s'=s):=by
 cases ho:PE.ty c env x with
 | none =>
   rw [ho] at hE
   rw [Q6 ho]
   refine zi.pure Tryz.func57 rfl (by kernel_rfl) (by simp) ?_
   repeat' first|(refine zf ?_;first|(refine zq.nil ?_)|(refine kG ?_;first|(refine zq.gF rfl rfl rfl ?_))|(refine zq.ev zx rfl ?_)|(refine qW ?_;refine zq.box rfl rfl rfl rfl ?_)|(refine zo ?_;first|(refine zq.ans (zk.Zx zx rfl h1 v1 rfl rfl) ?_)|(refine zq.ans (zk.Zx zx rfl h2 v2 rfl rfl) ?_)|(refine zq.ans (zk.zm zx rfl rfl rfl rfl) ?_))|(refine zy 23 ?_;first|(refine zq.ans (zk.ze rfl rfl rfl (Ju) (hE _)) ?_)))|(refine zH ?_;first|(refine WL.seq ?_)|(refine WL.region (by kernel_rfl) ?_)|(refine WL.ret ?_))|(refine zw ?_)|(refine zh.r1 (r := .tmp 4) (.inl rfl) (zn.tmp rfl) ?_)|(refine zX.mk ?_)
   rfl
 | some t =>
   rw [ho] at hE
   rw [Q7 ho]
   have hT:=fun s=>av t s
   refine zi.pure Tryz.func57 rfl (by kernel_rfl) (by simp) ?_
   repeat' first|(refine zf ?_;first|(refine zq.nil ?_)|(refine kG ?_;first|(refine zq.gT rfl rfl rfl ?_))|(refine zq.ev zx rfl ?_)|(refine qW ?_;refine zq.box rfl rfl rfl rfl ?_)|(refine zo ?_;first|(refine zq.ans (zk.Zx zx rfl h1 v1 rfl rfl) ?_)|(refine zq.ans (zk.Zx zx rfl h2 v2 rfl rfl) ?_)|(refine zq.ans (zk.zm zx rfl rfl rfl rfl) ?_))|(refine zy 23 ?_;first|(refine zq.ans (zk.ze rfl rfl rfl (Ju) (hE _)) ?_))|(refine zy 58 ?_;first|(refine zq.ans (zk.ze rfl rfl rfl (BM) (hT _)) ?_)))|(refine zH ?_;first|(refine WL.seq ?_)|(refine WL.region (by kernel_rfl) ?_)|(refine WL.ret ?_))|(refine zw ?_)|(refine zh.r1 (r := .tmp 4) (.inl rfl) (zn.tmp rfl) ?_)|(refine zX.mk ?_)
   rfl
theorem fU (c:jy) (l:List PE) (env:List (List Int)) (hl:l.length≤8388608) (hb:∀ k∈l,env.length+qV k.v≤8388608) (hr:bM env) (ih:∀ k∈l,FK Tryz.prog 23 c k) (s:S):VCalls Tryz.prog 21 [c.zF,jH env,.sl 0 (l.map PE.zF)] s (fun v s'=>v = .bool (PE.Jt c env l)∧s'=s):=by
 have he:PE.Jt c env l = !(l.any fun x => !ZF c env x):=by rw [JU,Yd,Bool.not_not]
 rw [he]
 have hE:∀ x∈l,∀ s,VCalls Tryz.prog 23 [c.zF,jH env,x.v] s (fun v s'=>v=eU (x.ty c env)∧s'=s):=fun x hx=>ih x hx env (hb x hx) hr
 refine zi.pure Tryz.func21 rfl (by kernel_rfl) (by simp) ?_
 repeat' first|(refine zf ?_;first|(refine zq.nil ?_)|(refine zq.ev zx rfl ?_)|(refine qW ?_;refine zq.box rfl rfl rfl rfl ?_)|(refine zy 56 ?_;first|(refine zq.ans (zk.ze rfl rfl rfl (Oy) (iL l (fun x => !ZF c env x) _ _ ?_ _ Ou ?_ ?_)) ?_;(focus (omega));(focus (simp [V.zO,V.under]));(focus (exact fun x hx ys=>pF c env x (hE x hx) _ _ _ (by simp) (by simp) (by simp) (by simp [jH]))))))|(refine zH ?_;first|(refine WL.seq ?_)|(refine WL.region (by kernel_rfl) ?_)|(refine WL.ret ?_))|(refine zw ?_)|(refine zh.r1 (r := .tmp 6) (.inl rfl) (zn.tmp rfl) ?_)|(refine zX.mk ?_)
 rfl
end Go.Proofs.YtolhegocbkckdaaGreat
