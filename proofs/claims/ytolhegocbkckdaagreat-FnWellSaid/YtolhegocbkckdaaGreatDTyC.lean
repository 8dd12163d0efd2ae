/-
 The types of plans' trees and plans, of the reference. Own work; no condition.
-/
import Derived.Test.YtolhegocbkckdaaGreatDTyB
namespace Go.Proofs.YtolhegocbkckdaaGreat
open Go
set_option linter.unusedSimpArgs false
set_option linter.unusedVariables false
def bM (env:List (List Int)):Prop:=∀ r∈env,r.length≤4194304
def iw (o:Option (List Int)):V := .jY [ints (match o with | some l=>l | none=>[]),.bool o.isSome]
@[simp] theorem EN (o:Option (List Int)):(iw o).dat=true:=by simp [iw]
def FK (P:Program) (g:FuncId) (c:jy) (e:PE):Prop:=∀ env,env.length+qV e.v≤8388608→bM env→∀ s:S,VCalls P g [c.zF,jH env,e.v] s (fun v s'=>v=eU (e.ty c env)∧s'=s)
def FJ (P:Program) (g:FuncId) (c:jy) (p:PL):Prop:=∀ env,env.length+qV p.v≤8388608→bM env→∀ s:S,VCalls P g [c.zF,jH env,p.v] s (fun v s'=>v=iw (PE.ZA c env p)∧s'=s)
theorem bM.cons {env:List (List Int)} {r:List Int} (h:bM env) (hr:r.length≤4194304):bM (r::env):=fun x hx=>by
 rcases List.mem_cons.1 hx with rfl | hx
 · exact hr
 · exact h x hx
theorem Kw {α : Type}:∀ {l:List α},l.length=2→∃ a b,l=[a,b]
 | [a,b],_=>⟨a,b,rfl⟩
 | [],h=>by cases h
 | [_],h=>by cases h
 | _::_::_::_,h=>by simp at h
theorem rA {e:PE} (h:e.shape=true):(e.kind=1∧e.kids=[]∧e.sub=[])∨(e.kind=2∧e.kids=[]∧e.sub=[])∨(e.kind=3∧(∃ a,e.kids=[a])∧e.sub=[])∨(e.kind=4∧(∃ a b,e.kids=[a,b])∧e.sub=[])∨(e.kind=5∧e.sub=[])∨(e.kind=6∧e.sub=[])∨(e.kind=7∧e.sub=[])∨(e.kind=8∧∃ p,e.sub=[p])∨(e.kind=9∧e.kids=[]∧∃ p,e.sub=[p]):=by
 simp only [PE.shape,decide_eq_true_eq,ZU,qU,List.length_eq_zero_iff] at h
 obtain ⟨_,_,_,_,h⟩:=h
 rcases h with ⟨h,_,h1,h2⟩ | ⟨h,h1,h2⟩ | ⟨h,_,h1,h2⟩ | ⟨h,_,_,h1,h2⟩ | ⟨h,h1,h2⟩ | ⟨h,h1,h2⟩ | ⟨h,_,_,h2⟩ | ⟨h,h1,h2⟩ | ⟨h,h1,h2⟩
 · exact .inl ⟨h,h1,h2⟩
 · exact .inr (.inl ⟨h,h1,h2⟩)
 · exact .inr (.inr (.inl ⟨h,List.length_eq_one_iff.1 h1,h2⟩))
 · exact .inr (.inr (.inr (.inl ⟨h,Kw h1,h2⟩)))
 · exact .inr (.inr (.inr (.inr (.inl ⟨h,h2⟩))))
 · exact .inr (.inr (.inr (.inr (.inr (.inl ⟨h,h2⟩)))))
 · exact .inr (.inr (.inr (.inr (.inr (.inr (.inl ⟨h,h2⟩))))))
 · exact .inr (.inr (.inr (.inr (.inr (.inr (.inr (.inl ⟨h,List.length_eq_one_iff.1 h2⟩)))))))
 · exact .inr (.inr (.inr (.inr (.inr (.inr (.inr (.inr ⟨h,h1,List.length_eq_one_iff.1 h2⟩)))))))
theorem PE.uf {c:jy} {env:List (List Int)} {l:List PE} {i:Nat} (hi:i<l.length) {ts:List Int} (h:PE.fE c env (l.take i)=some ts) (hx:PE.ty c env l[i]=none):PE.fE c env l=none:=by
 refine PE.Qg c env hi ?_
 rw [List.take_succ_eq_append_getElem hi,PE.ZB,h]
 simp only [hx]
theorem PE.ug {c:jy} {env:List (List Int)} {l:List PE} {i:Nat} (hi:i<l.length) {ts:List Int} {t:Int} (h:PE.fE c env (l.take i)=some ts) (hx:PE.ty c env l[i]=some t):PE.fE c env (l.take (i+1))=some (ts++[t]):=by
 rw [List.take_succ_eq_append_getElem hi,PE.ZB,h]
 simp only [hx]
def ZF (c:jy) (env:List (List Int)) (x:PE):Bool:=match PE.ty c env x with
 | some t=>Q0 t
 | none=>false
theorem Q6 {c:jy} {env:List (List Int)} {x:PE} (h:PE.ty c env x=none):ZF c env x=false:=by simp only [ZF,h]
theorem Q7 {c:jy} {env:List (List Int)} {x:PE} {t:Int} (h:PE.ty c env x=some t):ZF c env x=Q0 t:=by simp only [ZF,h]
theorem JU (c:jy) (env:List (List Int)) (l:List PE):PE.Jt c env l=l.all (ZF c env):=PE.WS c env l
theorem VP {α : Type} {p : α → Bool} {l:List α} {i:Nat} (hi:i<l.length) (h:p l[i]=false):l.all p=false:=by
 rw [List.all_eq_false]
 exact ⟨l[i],List.getElem_mem hi,by simp [h]⟩
def Y9 (c:jy) (env:List (List Int)) (x:PE × Bool):Bool:=(PE.ty c env x.1).isSome
theorem oV (c:jy) (env:List (List Int)) (l:List (PE × Bool)):PE.Y8 c env l=l.all (Y9 c env):=PE.W9 c env l
theorem Yf {p:PL} {i:Nat} (hi:i<p.on.length):p.on[i].length≤p.parts.length:=by
 have h1:p.on=p.on.take i++p.on[i]::p.on.drop (i+1):=by rw [← List.drop_eq_getElem_cons hi,List.take_append_drop]
 have h2:(p.on.take i++p.on[i]::p.on.drop (i+1)).flatten.length=(p.on.take i).flatten.length+(p.on[i].length+(p.on.drop (i+1)).flatten.length):=by
   simp only [List.flatten_append,List.flatten_cons,List.length_append]
 rw [← h1] at h2
 simp only [qZ.parts,List.length_append]
 omega
theorem lF (c:jy) (l:List PE) (env:List (List Int)) (hl:l.length≤8388608) (hb:∀ k∈l,env.length+qV k.v≤8388608) (hr:bM env) (ih:∀ k∈l,FK Tryz.prog 65 c k) (s:S):VCalls Tryz.prog 63 [c.zF,jH env,.sl 0 (l.map PE.zF)] s (fun v s'=>v = .bool (PE.Jt c env l)∧s'=s):=by
 rw [JU]
 refine zi.pure Tryz.func63 rfl (by kernel_rfl) (by simp) ?_
 repeat' first|(refine zf ?_;first|(refine zq.nil ?_)|(refine zq.ev zx rfl ?_)|(refine qW ?_;refine zq.box rfl rfl rfl rfl ?_))|(refine zH ?_;first|(refine WL.seq ?_)|(refine WL.region (by kernel_rfl) ?_)|(refine WL.block ?_))|(refine zw ?_)
 refine WL.xK (fun i:Nat=>l.length - i) (fun i=>[(1,jH env),(2,.sl 0 (l.map PE.zF)),(3,.ptr (s.next+0) 0),(7,.int .i64 (i:Int))]) (fun i=>[.var [.sl 0 (c.tables.map Tab.zF)]])
   (fun i=>i≤l.length∧(l.take i).all (ZF c env)=true) 1 0 ⟨by simp,by simp⟩ (fun _=>rfl) ⟨rfl,rfl,rfl,rfl,trivial⟩ rfl (fun i hi=>?_) (fun i hi=>?_)
 · simp [qF,qG,Own.under,V.under,V.zO,jH]
 obtain ⟨hi,ha⟩:=hi
 rcases Nat.lt_or_ge i l.length with hlt | hge
 · have hga : (l.map PE.zF)[i]? = some (PE.v l[i]) := by rw [List.getElem?_map, List.getElem?_eq_getElem hlt]; simp only [Option.map_some, PE.qK]
   have hE:=ih l[i] (List.getElem_mem hlt) env (hb _ (List.getElem_mem hlt)) hr
   have hst:=uW (p:=ZF c env) hlt
   rw [ha,Bool.true_and] at hst
   have hno:=VP (p:=ZF c env) hlt
   generalize l[i]=x at hga hE hst hno
   cases ho:PE.ty c env x with
   | none =>
     rw [ho] at hE
     rw [hno (Q6 ho)]
     repeat' first|(refine zf ?_;first|(refine zq.nil ?_)|(refine kG ?_;first|(refine zq.gF rfl rfl rfl ?_))|(refine zq.ev zx rfl ?_)|(refine qx ?_;first|(refine zq.ans (zk.z8 zx rfl rfl rfl) ?_)))|(refine zH ?_;first|(refine WL.seq ?_)|(refine WL.region (by kernel_rfl) ?_)|(refine WL.drawn (id:=4) [0,1,2,3,4,5,6,7,8,9,10,11] [] [[],[],[],[],[2,3],[2,3,4],[0,1,2,3,4,5],[0,1,2,3,4,5,6],[0,1,2,3,4,5,6,7],[0,1,2,3,4,5,6,7],[0,1,2,3,4,5,6,7,8],[0,1,2,3,4,5,6,7,8,9,10]] (by kernel_rfl) (by kernel_rfl) ?_)|(refine WL.block ?_)|(refine WL.skip ?_)|(refine WL.ret ?_)|(refine zu ?_;first|(refine WL.qb rfl ?_)|(refine WL.zJ rfl ?_ ?_;(focus (first|(simp <;> omega))))))|(refine vN ?_;first|(refine zA.nil ?_)|(refine zA.fl rfl rfl (.ev zx rfl) ?_)|(refine qo rfl ?_;first|(refine zA.fl rfl rfl (zk.zm zx rfl rfl rfl rfl) ?_))|(refine kQ rfl ?_;first|(refine zA.fl rfl rfl (zk.idx zx rfl rfl rfl rfl rfl hga rfl rfl) ?_))|(refine qX 65 rfl ?_;first|(refine zA.fl rfl rfl (zk.ze rfl rfl rfl (XD) (hE _)) ?_)))|(refine zw ?_)|(refine zZ ?_)|(refine zB ?_)|(refine qH ?_)|(refine zh.r1 (r := .tmp 6) (.inl rfl) (zn.tmp rfl) ?_)|(refine zX.mk ?_)
     rfl
   | some t =>
     rw [ho] at hE
     rw [Q7 ho] at hst hno
     have hT:=fun s=>ay t s
     cases ht:Q0 t <;> rw [ht] at hT hno hst
     · rw [hno rfl]
       repeat' first|(refine zf ?_;first|(refine zq.nil ?_)|(refine kG ?_;first|(refine zq.gT rfl rfl rfl ?_))|(refine zq.ev zx rfl ?_)|(refine qx ?_;first|(refine zq.ans (zk.z8 zx rfl rfl rfl) ?_))|(refine zy 95 ?_;first|(refine zq.ans (zk.ze rfl rfl rfl (Aq) (hT _)) ?_)))|(refine zH ?_;first|(refine WL.seq ?_)|(refine WL.region (by kernel_rfl) ?_)|(refine WL.drawn (id:=4) [0,1,2,3,4,5,6,7,8,9,10,11] [] [[],[],[],[],[2,3],[2,3,4],[0,1,2,3,4,5],[0,1,2,3,4,5,6],[0,1,2,3,4,5,6,7],[0,1,2,3,4,5,6,7],[0,1,2,3,4,5,6,7,8],[0,1,2,3,4,5,6,7,8,9,10]] (by kernel_rfl) (by kernel_rfl) ?_)|(refine WL.block ?_)|(refine WL.skip ?_)|(refine WL.ret ?_)|(refine zu ?_;first|(refine WL.qb rfl ?_)|(refine WL.zJ rfl ?_ ?_;(focus (first|(simp <;> omega))))))|(refine vN ?_;first|(refine zA.nil ?_)|(refine zA.fl rfl rfl (.ev zx rfl) ?_)|(refine qo rfl ?_;first|(refine zA.fl rfl rfl (zk.zm zx rfl rfl rfl rfl) ?_))|(refine kQ rfl ?_;first|(refine zA.fl rfl rfl (zk.idx zx rfl rfl rfl rfl rfl hga rfl rfl) ?_))|(refine qX 65 rfl ?_;first|(refine zA.fl rfl rfl (zk.ze rfl rfl rfl (XD) (hE _)) ?_)))|(refine zw ?_)|(refine zZ ?_)|(refine zB ?_)|(refine qH ?_)|(refine zh.r1 (r := .tmp 6) (.inl rfl) (zn.tmp rfl) ?_)|(refine zX.mk ?_)
       rfl
     · skip
       repeat' first|(refine zf ?_;first|(refine zq.nil ?_)|(refine kG ?_;first|(refine zq.gT rfl rfl rfl ?_))|(refine zq.ev zx rfl ?_)|(refine qx ?_;first|(refine zq.ans (zk.z8 zx rfl rfl rfl) ?_))|(refine xk ?_;first|(refine zq.ans (zk.add rfl rfl ?_) ?_;(focus (constructor <;> omega))))|(refine zy 95 ?_;first|(refine zq.ans (zk.ze rfl rfl rfl (Aq) (hT _)) ?_)))|(refine zH ?_;first|(refine WL.seq ?_)|(refine WL.region (by kernel_rfl) ?_)|(refine WL.drawn (id:=4) [0,1,2,3,4,5,6,7,8,9,10,11] [] [[],[],[],[],[2,3],[2,3,4],[0,1,2,3,4,5],[0,1,2,3,4,5,6],[0,1,2,3,4,5,6,7],[0,1,2,3,4,5,6,7],[0,1,2,3,4,5,6,7,8],[0,1,2,3,4,5,6,7,8,9,10]] (by kernel_rfl) (by kernel_rfl) ?_)|(refine WL.block ?_)|(refine WL.skip ?_)|(refine zu ?_;first|(refine WL.qQ rfl ?_)|(refine WL.zJ rfl ?_ ?_;(focus (first|(simp <;> omega))))))|(refine vN ?_;first|(refine zA.nil ?_)|(refine zA.fl rfl rfl (.ev zx rfl) ?_)|(refine qo rfl ?_;first|(refine zA.fl rfl rfl (zk.zm zx rfl rfl rfl rfl) ?_))|(refine kQ rfl ?_;first|(refine zA.fl rfl rfl (zk.idx zx rfl rfl rfl rfl rfl hga rfl rfl) ?_))|(refine qX 65 rfl ?_;first|(refine zA.fl rfl rfl (zk.ze rfl rfl rfl (XD) (hE _)) ?_)))|(refine zw ?_)|(refine zQ ?_)
       all_goals
         refine qB.of (i+1) ?_ ?_ ?_ ?_
         · first | omega |(refine ⟨?_,?_⟩;(focus (first | omega |(simp;omega)));(first | omega |(simp_all [hst] <;> fail)|(simp_all [hst];omega)))|(simp_all [hst] <;> fail)|(simp_all [hst];omega)
         · first | omega |(simp;omega) | simp_all
         · repeat' first
             | exact qz.nil
             |(refine qz.mk rfl ?_ ?_)
             | rfl
             |(simp [hst] <;> fail)
             |(simp [hst];omega)
         · first | rfl |(simp [hst] <;> fail)|(simp [hst];omega)
 · rw [List.take_of_length_le hge] at ha
   rw [ha]
   repeat' first|(refine zf ?_;first|(refine zq.nil ?_)|(refine zq.ev zx rfl ?_)|(refine qx ?_;first|(refine zq.ans (zk.z8 zx rfl rfl rfl) ?_)))|(refine zH ?_;first|(refine WL.seq ?_)|(refine WL.region (by kernel_rfl) ?_)|(refine WL.exit ?_)|(refine WL.ret ?_)|(refine zu ?_;first|(refine WL.zY rfl ?_ ?_;(focus (first|(simp <;> omega))))))|(refine zw ?_)|(refine zC ?_)|(refine zV ?_)|(refine zL ?_)|(refine zh.r1 (r := .tmp 6) (.inl rfl) (zn.tmp rfl) ?_)|(refine zX.mk ?_)
   rfl
set_option maxHeartbeats 600000 in
theorem fV (c:jy) (p:PL) (hc:c.wt≤1048576) (hw:qV p.v≤1048576) (ih:∀ k∈p.parts,FK Tryz.prog 65 c k):FJ Tryz.prog 24 c p:=by
 intro env hb hr s
 rw [PE.Kz]
 have hB:=fun t=>rR c p hc hw t
 have hpw:∀ k∈p.parts,1+qV k.v≤qV p.v:=fun k hk=>by
   obtain ⟨i,hi,rfl⟩:=List.getElem_of_mem hk
   exact Nat.le_trans (dX (f:=fun k=>1+qV (PE.v k)) hi) (PL.vO p)
 have EL:=PL.QT p
 have hpl:=PL.vV p
 cases hok:p.ok c <;> rw [hok] at hB
 · simp only [Bool.false_eq_true, if_false]
   refine zi.pure Tryz.func24 rfl (by kernel_rfl) (by simp) ?_
   repeat' first|(refine zf ?_;first|(refine zq.nil ?_)|(refine zq.ev zx rfl ?_)|(refine qW ?_;refine zq.box rfl rfl rfl rfl ?_)|(refine kZ ?_;first|(refine zq.uT zx rfl rfl rfl rfl rfl ?_))|(refine zo ?_;first|(refine zq.ans (zk.zm zx rfl rfl rfl rfl) ?_))|(refine zy 61 ?_;first|(refine zq.ans (zk.ze rfl rfl rfl (Hu) (hB _)) ?_)))|(refine zH ?_;first|(refine WL.seq ?_)|(refine WL.region (by kernel_rfl) ?_)|(refine WL.ret ?_)|(refine zu ?_;first|(refine WL.qb rfl ?_)))|(refine zw ?_)|(refine zZ ?_)|(refine zh.r2 (r := .tmp 6) (r' := .tmp 7) (.inl rfl) (zn.tmp rfl) (zn.tmp rfl) ?_)|(refine zX.mk ?_)
   rfl
 simp only [if_true]
 have hok2:=hok
 simp only [PL.ok,Bool.and_eq_true] at hok2
 obtain ⟨hform,hall⟩:=hok2
 simp only [PL.form,Bool.and_eq_true,decide_eq_true_eq] at hform
 obtain ⟨⟨f1,f2,f3,f4,f5,f6,f7,f8,f9,f10⟩,f11,f12⟩:=hform
 have hrow:∀ ts,(∀ k∈ts,k∈p.tables)→ts.length≤3→jU c ts=(rowsOf c ts,true)∧(rowsOf c ts).length≤3145728:=fun ts h1 h2=>by
   refine ⟨?_,?_⟩
   · have:ts.all (wB c)=true:=by
       rw [List.all_eq_true] at hall ⊢
       exact fun k hk=>hall k (h1 k hk)
     simp only [jU,this,if_true]
   · have := aP c hc ts
     omega
 have hR0:=fun t=>aT c p.tables hc (by omega) t
 obtain ⟨e0,l0⟩:=hrow p.tables (fun _ h=>h) f2
 rw [e0] at hR0
 refine zi.pure Tryz.func24 rfl (by kernel_rfl) (by simp) ?_
 repeat' first|(refine zf ?_;first|(refine zq.nil ?_)|(refine zq.ev zx rfl ?_)|(refine qW ?_;refine zq.box rfl rfl rfl rfl ?_)|(refine zo ?_;first|(refine zq.ans (zk.zm zx rfl rfl rfl rfl) ?_))|(refine zy 61 ?_;first|(refine zq.ans (zk.ze rfl rfl rfl (Hu) (hB _)) ?_)))|(refine zH ?_;first|(refine WL.seq ?_)|(refine WL.region (by kernel_rfl) ?_)|(refine WL.block ?_)|(refine WL.skip ?_)|(refine zu ?_;first|(refine WL.qQ rfl ?_)))|(refine zw ?_)
 refine WL.xK (fun i:Nat=>p.on.length - i) (fun i=>[(1,jH env),(3,.ptr (s.next+0) 0),(5,.ptr (s.next+1) 0),(8,.int .i64 (i:Int))]) (fun i=>[.var [.sl 0 (c.tables.map Tab.zF)],.var p.v.cells])
   (fun i=>i≤p.on.length∧PE.oh c env p.tables 1 p.on=PE.oh c env p.tables (1+i) (p.on.drop i)) 2 0 ⟨by simp,by simp⟩ (fun _=>rfl) ⟨rfl,rfl,rfl,rfl,trivial⟩ rfl (fun i hi=>?_) (fun i hi=>?_)
 · simp [qF,qG,Own.under,V.under,V.zO,PL.v,V.cells,jH]
 obtain ⟨hi,hc1⟩:=hi
 rcases Nat.lt_or_ge i p.on.length with hlt | hge
 · have hga : (p.on.map PE.vS)[i]? = some (PE.vS p.on[i]) := by rw [List.getElem?_map, List.getElem?_eq_getElem hlt]; rfl
   rw [List.drop_eq_getElem_cons hlt,PE.oh] at hc1
   have hmem:∀ k∈p.on[i],k∈p.parts:=fun k hk=>qZ.Zm (List.getElem_mem hlt) hk
   have hsl:i+1≤(p.tables.map iV).length:=by rw [List.length_map];omega
   obtain ⟨e1,l1⟩:=hrow (p.tables.take (i+1)) (fun _ h=>List.mem_of_mem_take h) (by rw [List.length_take];omega)
   rw [Nat.add_comm i 1] at e1 l1
   have EO:∀ t,VCalls Tryz.prog 62 [c.zF,.sl 0 ((p.tables.map iV).take (i+1))] t (fun v t'=>v=Zr (rowsOf c (p.tables.take (1+i)),true)∧t'=t):=fun t=>by
     rw [← List.map_take,Nat.add_comm i 1]
     have:=aT c (p.tables.take (1+i)) hc (by rw [List.length_take];omega) t
     rw [e1] at this
     exact this
   have hol:=Yf hlt
   generalize rowsOf c (p.tables.take (1+i))=R at hc1 EO l1
   have hX:=fun t=>oo R env (by omega) t
   have hG:=fun t=>lF c p.on[i] (R::env) (by omega) (fun k hk=>by have:=hpw k (hmem k hk);simp only [List.length_cons];omega) (hr.cons (by omega)) (fun k hk=>ih k (hmem k hk)) t
   generalize p.on[i]=l at hga hc1 hG
   cases hb1:PE.Jt c (R::env) l <;> rw [hb1] at hG hc1
   · rw [Bool.false_and] at hc1
     simp only [hc1,Bool.false_eq_true,if_false]
     repeat' first|(refine zf ?_;first|(refine zq.nil ?_)|(refine zq.ev zx rfl ?_)|(refine kZ ?_;first|(refine zq.uT zx rfl rfl rfl rfl rfl ?_))|(refine zo ?_;first|(refine zq.ans (zk.zm zx rfl rfl rfl rfl) ?_))|(refine qx ?_;first|(refine zq.ans (zk.z8 zx rfl rfl rfl) ?_)))|(refine zH ?_;first|(refine WL.seq ?_)|(refine WL.region (by kernel_rfl) ?_)|(refine WL.drawn (id:=6) [0,1,2,3,4,5,6,7,8,9,10,11] [] [[],[],[1],[],[3],[1,2,3,4],[0,1,2,3,4,5],[0,1,2,3,4,5,6],[0,1,2,3,4,5,6,7],[0,1,2,3,4,5,6,7],[0,1,2,3,4,5,6,7,8],[0,1,2,3,4,5,6,7,8,9,10]] (by kernel_rfl) (by kernel_rfl) ?_)|(refine WL.drawn (id:=7) [0,1,2,3,4,5,6,7,8,9,10] [] [[],[],[],[1,2],[],[4],[],[4,5,6],[4,5,6,7],[0,1,2,3,4,5,6,7,8],[0,1,2,3,4,5,6,7,8,9]] (by kernel_rfl) (by kernel_rfl) ?_)|(refine WL.block ?_)|(refine WL.skip ?_)|(refine WL.ret ?_)|(refine zu ?_;first|(refine WL.qb rfl ?_)|(refine WL.zJ rfl ?_ ?_;(focus (first|(simp <;> omega))))))|(refine vN ?_;first|(refine zA.nil ?_)|(refine zA.fl rfl rfl (.ev zx rfl) ?_)|(refine qo rfl ?_;first|(refine zA.fl rfl rfl (zk.zm zx rfl rfl rfl rfl) ?_))|(refine yj rfl ?_;first|(refine zA.fl rfl rfl (zk.add rfl rfl ?_) ?_;(focus (constructor <;> omega))))|(refine kQ rfl ?_;first|(refine zA.fl rfl rfl (zk.idx zx rfl rfl rfl rfl rfl hga rfl rfl) ?_))|(refine Wh rfl ?_;first|(refine zA.fl rfl rfl (zk.Bt (n:=i+1) zx rfl rfl rfl rfl rfl hsl) ?_))|(refine qX 62 rfl ?_;first|(refine zA.fl rfl rfl (zk.ze rfl rfl rfl (Vt) (EO _)) ?_))|(refine qX 63 rfl ?_;first|(refine zA.fl rfl rfl (zk.ze rfl rfl rfl (BN) (hG _)) ?_))|(refine qX 64 rfl ?_;first|(refine zA.fl rfl rfl (zk.ze rfl rfl rfl (Y3) (hX _)) ?_)))|(refine zw ?_)|(refine zZ ?_)|(refine zB ?_)|(refine qH ?_)|(refine zh.r2 (r := .tmp 6) (r' := .tmp 7) (.inl rfl) (zn.tmp rfl) (zn.tmp rfl) ?_)|(refine zX.mk ?_)
     rfl
   · rw [Bool.true_and] at hc1
     repeat' first|(refine zf ?_;first|(refine zq.nil ?_)|(refine zq.ev zx rfl ?_)|(refine zo ?_;first|(refine zq.ans (zk.zm zx rfl rfl rfl rfl) ?_))|(refine qx ?_;first|(refine zq.ans (zk.z8 zx rfl rfl rfl) ?_))|(refine xk ?_;first|(refine zq.ans (zk.add rfl rfl ?_) ?_;(focus (constructor <;> omega)))))|(refine zH ?_;first|(refine WL.seq ?_)|(refine WL.region (by kernel_rfl) ?_)|(refine WL.drawn (id:=6) [0,1,2,3,4,5,6,7,8,9,10,11] [] [[],[],[1],[],[3],[1,2,3,4],[0,1,2,3,4,5],[0,1,2,3,4,5,6],[0,1,2,3,4,5,6,7],[0,1,2,3,4,5,6,7],[0,1,2,3,4,5,6,7,8],[0,1,2,3,4,5,6,7,8,9,10]] (by kernel_rfl) (by kernel_rfl) ?_)|(refine WL.drawn (id:=7) [0,1,2,3,4,5,6,7,8,9,10] [] [[],[],[],[1,2],[],[4],[],[4,5,6],[4,5,6,7],[0,1,2,3,4,5,6,7,8],[0,1,2,3,4,5,6,7,8,9]] (by kernel_rfl) (by kernel_rfl) ?_)|(refine WL.block ?_)|(refine WL.skip ?_)|(refine zu ?_;first|(refine WL.qQ rfl ?_)|(refine WL.zJ rfl ?_ ?_;(focus (first|(simp <;> omega))))))|(refine vN ?_;first|(refine zA.nil ?_)|(refine zA.fl rfl rfl (.ev zx rfl) ?_)|(refine qo rfl ?_;first|(refine zA.fl rfl rfl (zk.zm zx rfl rfl rfl rfl) ?_))|(refine yj rfl ?_;first|(refine zA.fl rfl rfl (zk.add rfl rfl ?_) ?_;(focus (constructor <;> omega))))|(refine kQ rfl ?_;first|(refine zA.fl rfl rfl (zk.idx zx rfl rfl rfl rfl rfl hga rfl rfl) ?_))|(refine Wh rfl ?_;first|(refine zA.fl rfl rfl (zk.Bt (n:=i+1) zx rfl rfl rfl rfl rfl hsl) ?_))|(refine qX 62 rfl ?_;first|(refine zA.fl rfl rfl (zk.ze rfl rfl rfl (Vt) (EO _)) ?_))|(refine qX 63 rfl ?_;first|(refine zA.fl rfl rfl (zk.ze rfl rfl rfl (BN) (hG _)) ?_))|(refine qX 64 rfl ?_;first|(refine zA.fl rfl rfl (zk.ze rfl rfl rfl (Y3) (hX _)) ?_)))|(refine zw ?_)|(refine zQ ?_)
     all_goals
       refine qB.of (i+1) ?_ ?_ ?_ ?_
       · first | omega |(refine ⟨?_,?_⟩;(focus (first | omega |(simp;omega)));(first | omega |(simp_all [hc1] <;> fail)|(simp_all [hc1];omega)))|(simp_all [hc1] <;> fail)|(simp_all [hc1];omega)
       · first | omega |(simp;omega) | simp_all
       · repeat' first
           | exact qz.nil
           |(refine qz.mk rfl ?_ ?_)
           | rfl
           |(simp [hc1] <;> fail)
           |(simp [hc1];omega)
       · first | rfl |(simp [hc1] <;> fail)|(simp [hc1];omega)
 rw [List.drop_of_length_le hge,PE.oh] at hc1
 simp only [hc1,if_true]
 generalize rowsOf c p.tables=R at hR0 l0 ⊢
 have hX:=fun t=>oo R env (by omega) t
 have hr1:bM (R::env):=hr.cons (by omega)
 have hb1:∀ k∈p.parts,(R::env).length+qV k.v≤8388608:=fun k hk=>by have:=hpw k hk;simp only [List.length_cons];omega
 have hG:=fun t=>lF c p.xO (R::env) (by omega) (fun k hk=>hb1 k (qZ.aL hk)) hr1 (fun k hk=>ih k (qZ.aL hk)) t
 generalize hen:R::env=wO at hX hG hr1 hb1 ⊢
 cases hb2:PE.Jt c wO p.xO <;> rw [hb2] at hG
 · simp only [Bool.false_eq_true, if_false]
   repeat' first|(refine zf ?_;first|(refine zq.nil ?_)|(refine zq.ev zx rfl ?_)|(refine kZ ?_;first|(refine zq.uT zx rfl rfl rfl rfl rfl ?_))|(refine zo ?_;first|(refine zq.ans (zk.zm zx rfl rfl rfl rfl) ?_))|(refine qx ?_;first|(refine zq.ans (zk.z8 zx rfl rfl rfl) ?_))|(refine zy 62 ?_;first|(refine zq.ans (zk.ze rfl rfl rfl (Vt) (hR0 _)) ?_))|(refine zy 63 ?_;first|(refine zq.ans (zk.ze rfl rfl rfl (BN) (hG _)) ?_))|(refine zy 64 ?_;first|(refine zq.ans (zk.ze rfl rfl rfl (Y3) (hX _)) ?_)))|(refine zH ?_;first|(refine WL.seq ?_)|(refine WL.region (by kernel_rfl) ?_)|(refine WL.exit ?_)|(refine WL.ret ?_)|(refine zu ?_;first|(refine WL.qb rfl ?_)|(refine WL.zY rfl ?_ ?_;(focus (first|(simp <;> omega))))))|(refine zw ?_)|(refine zZ ?_)|(refine zC ?_)|(refine zV ?_)|(refine zL ?_)|(refine zh.r2 (r := .tmp 6) (r' := .tmp 7) (.inl rfl) (zn.tmp rfl) (zn.tmp rfl) ?_)|(refine zX.mk ?_)
   rfl
 simp only [if_true]
 repeat' first|(refine zf ?_;first|(refine zq.nil ?_)|(refine zq.ev zx rfl ?_)|(refine zo ?_;first|(refine zq.ans (zk.zm zx rfl rfl rfl rfl) ?_))|(refine qx ?_;first|(refine zq.ans (zk.z8 zx rfl rfl rfl) ?_))|(refine zy 62 ?_;first|(refine zq.ans (zk.ze rfl rfl rfl (Vt) (hR0 _)) ?_))|(refine zy 63 ?_;first|(refine zq.ans (zk.ze rfl rfl rfl (BN) (hG _)) ?_))|(refine zy 64 ?_;first|(refine zq.ans (zk.ze rfl rfl rfl (Y3) (hX _)) ?_)))|(refine zH ?_;first|(refine WL.seq ?_)|(refine WL.region (by kernel_rfl) ?_)|(refine WL.block ?_)|(refine WL.exit ?_)|(refine WL.skip ?_)|(refine zu ?_;first|(refine WL.qQ rfl ?_)|(refine WL.zY rfl ?_ ?_;(focus (first|(simp <;> omega))))))|(refine zw ?_)|(refine zC ?_)|(refine zV ?_)|(refine zL ?_)
 refine WL.xK (fun i:Nat=>p.order.length - i) (fun i=>[(13,jH wO),(3,.ptr (s.next+0) 0),(5,.ptr (s.next+1) 0),(14,.int .i64 (i:Int))]) (fun i=>[.var [.sl 0 (c.tables.map Tab.zF)],.var p.v.cells])
   (fun i=>i≤p.order.length∧(p.order.take i).all (Y9 c wO)=true) 2 0 ⟨by simp,by simp⟩ (fun _=>rfl) ⟨rfl,rfl,rfl,rfl,trivial⟩ rfl (fun i hi=>?_) (fun i hi=>?_)
 · simp [qF,qG,Own.under,V.under,V.zO,PL.v,V.cells,jH]
 obtain ⟨hi,ha⟩:=hi
 rcases Nat.lt_or_ge i p.order.length with hlt | hge
 · have hga : (p.order.map PE.sv)[i]? = some (PE.sv p.order[i]) := by rw [List.getElem?_map, List.getElem?_eq_getElem hlt]; rfl
   have hmem:p.order[i].1∈p.parts:=qZ.dK (List.getElem_mem hlt)
   have hE:=ih _ hmem wO (hb1 _ hmem) hr1
   have hst:=uW (p:=Y9 c wO) hlt
   rw [ha,Bool.true_and] at hst
   have hno:=VP (p:=Y9 c wO) hlt
   generalize p.order[i]=x at hga hE hst hno
   cases ho:PE.ty c wO x.1 with
   | none =>
     rw [ho] at hE
     have hn2:PE.Y8 c wO p.order=false:=by rw [oV];exact hno (by simp only [Y9,ho];rfl)
     simp only [hn2,Bool.false_eq_true,if_false]
     repeat' first|(refine zf ?_;first|(refine zq.nil ?_)|(refine zq.ev zx rfl ?_)|(refine kZ ?_;first|(refine zq.uT zx rfl rfl rfl rfl rfl ?_))|(refine zo ?_;first|(refine zq.ans (zk.zm zx rfl rfl rfl rfl) ?_))|(refine qx ?_;first|(refine zq.ans (zk.z8 zx rfl rfl rfl) ?_)))|(refine zH ?_;first|(refine WL.seq ?_)|(refine WL.region (by kernel_rfl) ?_)|(refine WL.drawn (id:=16) [0,1,2,3,4,5,6,7,8,9,10,11,12,13] [] [[],[],[],[2],[],[2,3,4],[2,3,4,5],[2,3,4,5,6],[0,1,2,3,4,5,6,7],[0,1,2,3,4,5,6,7,8],[0,1,2,3,4,5,6,7,8,9],[0,1,2,3,4,5,6,7,8,9],[0,1,2,3,4,5,6,7,8,9,10],[0,1,2,3,4,5,6,7,8,9,10,11,12]] (by kernel_rfl) (by kernel_rfl) ?_)|(refine WL.block ?_)|(refine WL.skip ?_)|(refine WL.ret ?_)|(refine zu ?_;first|(refine WL.qb rfl ?_)|(refine WL.zJ rfl ?_ ?_;(focus (first|(simp <;> omega))))))|(refine vN ?_;first|(refine zA.nil ?_)|(refine zA.fl rfl rfl (.ev zx rfl) ?_)|(refine qo rfl ?_;first|(refine zA.fl rfl rfl (zk.zm zx rfl rfl rfl rfl) ?_))|(refine kQ rfl ?_;first|(refine zA.fl rfl rfl (zk.idx zx rfl rfl rfl rfl rfl hga rfl rfl) ?_))|(refine qX 65 rfl ?_;first|(refine zA.fl rfl rfl (zk.ze rfl rfl rfl (XD) (hE _)) ?_)))|(refine zw ?_)|(refine zZ ?_)|(refine zB ?_)|(refine qH ?_)|(refine zh.r2 (r := .tmp 6) (r' := .tmp 7) (.inl rfl) (zn.tmp rfl) (zn.tmp rfl) ?_)|(refine zX.mk ?_)
     rfl
   | some t =>
     rw [ho] at hE
     have hs:Y9 c wO x=true:=by simp only [Y9,ho];rfl
     rw [hs] at hst
     repeat' first|(refine zf ?_;first|(refine zq.nil ?_)|(refine zq.ev zx rfl ?_)|(refine zo ?_;first|(refine zq.ans (zk.zm zx rfl rfl rfl rfl) ?_))|(refine qx ?_;first|(refine zq.ans (zk.z8 zx rfl rfl rfl) ?_))|(refine xk ?_;first|(refine zq.ans (zk.add rfl rfl ?_) ?_;(focus (constructor <;> omega)))))|(refine zH ?_;first|(refine WL.seq ?_)|(refine WL.region (by kernel_rfl) ?_)|(refine WL.drawn (id:=16) [0,1,2,3,4,5,6,7,8,9,10,11,12,13] [] [[],[],[],[2],[],[2,3,4],[2,3,4,5],[2,3,4,5,6],[0,1,2,3,4,5,6,7],[0,1,2,3,4,5,6,7,8],[0,1,2,3,4,5,6,7,8,9],[0,1,2,3,4,5,6,7,8,9],[0,1,2,3,4,5,6,7,8,9,10],[0,1,2,3,4,5,6,7,8,9,10,11,12]] (by kernel_rfl) (by kernel_rfl) ?_)|(refine WL.block ?_)|(refine WL.skip ?_)|(refine zu ?_;first|(refine WL.qQ rfl ?_)|(refine WL.zJ rfl ?_ ?_;(focus (first|(simp <;> omega))))))|(refine vN ?_;first|(refine zA.nil ?_)|(refine zA.fl rfl rfl (.ev zx rfl) ?_)|(refine qo rfl ?_;first|(refine zA.fl rfl rfl (zk.zm zx rfl rfl rfl rfl) ?_))|(refine kQ rfl ?_;first|(refine zA.fl rfl rfl (zk.idx zx rfl rfl rfl rfl rfl hga rfl rfl) ?_))|(refine qX 65 rfl ?_;first|(refine zA.fl rfl rfl (zk.ze rfl rfl rfl (XD) (hE _)) ?_)))|(refine zw ?_)|(refine zQ ?_)
     all_goals
       refine qB.of (i+1) ?_ ?_ ?_ ?_
       · first | omega |(refine ⟨?_,?_⟩;(focus (first | omega |(simp;omega)));(first | omega |(simp_all [hst] <;> fail)|(simp_all [hst];omega)))|(simp_all [hst] <;> fail)|(simp_all [hst];omega)
       · first | omega |(simp;omega) | simp_all
       · repeat' first
           | exact qz.nil
           |(refine qz.mk rfl ?_ ?_)
           | rfl
           |(simp [hst] <;> fail)
           |(simp [hst];omega)
       · first | rfl |(simp [hst] <;> fail)|(simp [hst];omega)
 rw [List.take_of_length_le hge] at ha
 have hn2:PE.Y8 c wO p.order=true:=by rw [oV];exact ha
 simp only [hn2,if_true]
 repeat' first|(refine zf ?_;first|(refine zq.nil ?_)|(refine zq.ev zx rfl ?_)|(refine kZ ?_;first|(refine zq.uT zx rfl rfl rfl rfl rfl ?_))|(refine zo ?_;first|(refine zq.ans (zk.zm zx rfl rfl rfl rfl) ?_))|(refine qx ?_;first|(refine zq.ans (zk.z8 zx rfl rfl rfl) ?_)))|(refine zH ?_;first|(refine WL.seq ?_)|(refine WL.region (by kernel_rfl) ?_)|(refine WL.block ?_)|(refine WL.exit ?_)|(refine zu ?_;first|(refine WL.zY rfl ?_ ?_;(focus (first|(simp <;> omega))))))|(refine zw ?_)|(refine zC ?_)|(refine zV ?_)|(refine zL ?_)
 refine WL.mV (t:=17) 1 rfl rfl rfl rfl ?_
 refine WL.xK (fun x:Nat × List Int=>p.items.length - x.1) (fun x=>[(13,jH wO),(3,.ptr (s.next+0) 0),(5,.ptr (s.next+1) 0),(17,.sl (s.next+2) (x.2.map iV)),(18,.int .i64 (x.1:Int))]) (fun x=>[.var [.sl 0 (c.tables.map Tab.zF)],.var p.v.cells,.fam x.2.length 1])
   (fun x=>x.1≤p.items.length∧PE.fE c wO (p.items.take x.1)=some x.2) 3 (0,[]) ⟨by simp,by simp [PE.fE]⟩ (fun _=>rfl) ⟨rfl,rfl,rfl,rfl,rfl,trivial⟩ rfl (fun i hi=>?_) (fun i hi=>?_)
 · simp [qF,qG,Own.under,V.under,V.zO,PL.v,V.cells,jH]
 obtain ⟨i,ts⟩:=i
 obtain ⟨hi,ht⟩:=hi
 try dsimp only at hi ht ⊢
 have htl:=PE.iE c wO ht
 rw [List.length_take] at htl
 rcases Nat.lt_or_ge i p.items.length with hlt | hge
 · have hga : (p.items.map PE.zF)[i]? = some (PE.v p.items[i]) := by rw [List.getElem?_map, List.getElem?_eq_getElem hlt]; simp only [Option.map_some, PE.qK]
   have hmem:p.items[i]∈p.parts:=qZ.yS (List.getElem_mem hlt)
   have hE:=ih _ hmem wO (hb1 _ hmem) hr1
   have hn:=fun h=>PE.uf hlt ht h
   have hs:=fun t h=>PE.ug (t:=t) hlt ht h
   generalize p.items[i]=x at hga hE hn hs
   cases ho:PE.ty c wO x with
   | none =>
     rw [ho] at hE
     rw [hn ho]
     repeat' first|(refine zf ?_;first|(refine zq.nil ?_)|(refine zq.ev zx rfl ?_)|(refine kZ ?_;first|(refine zq.uT zx rfl rfl rfl rfl rfl ?_))|(refine zo ?_;first|(refine zq.ans (zk.zm zx rfl rfl rfl rfl) ?_))|(refine qx ?_;first|(refine zq.ans (zk.z8 zx rfl rfl rfl) ?_)))|(refine zH ?_;first|(refine WL.seq ?_)|(refine WL.region (by kernel_rfl) ?_)|(refine WL.drawn (id:=23) [0,1,2,3,4,5,6,7,8,9,10,11,12] [] [[],[],[],[2],[],[2,3,4],[2,3,4,5],[0,1,2,3,4,5,6],[0,1,2,3,4,5,6,7],[0,1,2,3,4,5,6,7,8],[0,1,2,3,4,5,6,7,8],[0,1,2,3,4,5,6,7,8,9],[0,1,2,3,4,5,6,7,8,9,10,11]] (by kernel_rfl) (by kernel_rfl) ?_)|(refine WL.block ?_)|(refine WL.skip ?_)|(refine WL.ret ?_)|(refine zu ?_;first|(refine WL.qb rfl ?_)|(refine WL.zJ rfl ?_ ?_;(focus (first|(simp <;> omega))))))|(refine vN ?_;first|(refine zA.nil ?_)|(refine zA.fl rfl rfl (.ev zx rfl) ?_)|(refine qo rfl ?_;first|(refine zA.fl rfl rfl (zk.zm zx rfl rfl rfl rfl) ?_))|(refine kQ rfl ?_;first|(refine zA.fl rfl rfl (zk.idx zx rfl rfl rfl rfl rfl hga rfl rfl) ?_))|(refine qX 65 rfl ?_;first|(refine zA.fl rfl rfl (zk.ze rfl rfl rfl (XD) (hE _)) ?_)))|(refine zw ?_)|(refine zZ ?_)|(refine zB ?_)|(refine qH ?_)|(refine zh.r2 (r := .tmp 6) (r' := .tmp 7) (.inl rfl) (zn.tmp rfl) (zn.tmp rfl) ?_)|(refine zX.mk ?_)
     rfl
   | some t =>
     rw [ho] at hE
     have hs:=hs t ho
     repeat' first|(refine zf ?_;first|(refine zq.nil ?_)|(refine zq.ev zx rfl ?_)|(refine kZ ?_;first|(refine zq.Kl zx rfl rfl rfl rfl rfl rfl rfl rfl rfl rfl rfl ?_))|(refine ji ?_;first|(refine zq.app zx rfl rfl rfl rfl rfl rfl rfl rfl rfl rfl rfl ?_ ?_ (xU.of ?_ rfl) ?_;(focus (first | rfl |(simp <;> fail)));(focus (first | exact zS.of rfl | exact zS.map fun _=>rfl | exact PE.els _ (fun _=>rfl) _));(focus (first | omega |(simp;omega)))))|(refine zo ?_;first|(refine zq.ans (zk.zm zx rfl rfl rfl rfl) ?_))|(refine qx ?_;first|(refine zq.ans (zk.z8 zx rfl rfl rfl) ?_))|(refine xk ?_;first|(refine zq.ans (zk.add rfl rfl ?_) ?_;(focus (constructor <;> omega)))))|(refine zH ?_;first|(refine WL.seq ?_)|(refine WL.region (by kernel_rfl) ?_)|(refine WL.drawn (id:=23) [0,1,2,3,4,5,6,7,8,9,10,11,12] [] [[],[],[],[2],[],[2,3,4],[2,3,4,5],[0,1,2,3,4,5,6],[0,1,2,3,4,5,6,7],[0,1,2,3,4,5,6,7,8],[0,1,2,3,4,5,6,7,8],[0,1,2,3,4,5,6,7,8,9],[0,1,2,3,4,5,6,7,8,9,10,11]] (by kernel_rfl) (by kernel_rfl) ?_)|(refine WL.block ?_)|(refine WL.skip ?_)|(refine zu ?_;first|(refine WL.qQ rfl ?_)|(refine WL.zJ rfl ?_ ?_;(focus (first|(simp <;> omega))))))|(refine vN ?_;first|(refine zA.nil ?_)|(refine zA.fl rfl rfl (.ev zx rfl) ?_)|(refine qo rfl ?_;first|(refine zA.fl rfl rfl (zk.zm zx rfl rfl rfl rfl) ?_))|(refine kQ rfl ?_;first|(refine zA.fl rfl rfl (zk.idx zx rfl rfl rfl rfl rfl hga rfl rfl) ?_))|(refine qX 65 rfl ?_;first|(refine zA.fl rfl rfl (zk.ze rfl rfl rfl (XD) (hE _)) ?_)))|(refine zw ?_)|(refine zQ ?_)
     refine qB.of (i+1,ts++[t]) ⟨hlt,hs⟩ (by show p.items.length - (i+1)<p.items.length - i;omega) ?_ ?_
     · rw [List.map_append]
       repeat' first | exact qz.nil |(refine qz.mk rfl ?_ ?_) | rfl |(simp <;> fail)|(simp;omega)
     · simp [PL.v,V.cells]
 · rw [List.take_of_length_le hge] at ht
   rw [ht]
   repeat' first|(refine zf ?_;first|(refine zq.nil ?_)|(refine zq.ev zx rfl ?_)|(refine zo ?_;first|(refine zq.ans (zk.zm zx rfl rfl rfl rfl) ?_))|(refine qx ?_;first|(refine zq.ans (zk.z8 zx rfl rfl rfl) ?_)))|(refine zH ?_;first|(refine WL.seq ?_)|(refine WL.region (by kernel_rfl) ?_)|(refine WL.exit ?_)|(refine WL.ret ?_)|(refine zu ?_;first|(refine WL.zY rfl ?_ ?_;(focus (first|(simp <;> omega))))))|(refine zw ?_)|(refine zC ?_)|(refine zV ?_)|(refine zL ?_)|(refine zh.r2 (r := .tmp 6) (r' := .tmp 7) (.inl rfl) (zn.tmp rfl) (zn.tmp rfl) ?_)|(refine zX.mk ?_)
   simp [iw,ints,V.forget,V.qE]
end Go.Proofs.YtolhegocbkckdaaGreat
