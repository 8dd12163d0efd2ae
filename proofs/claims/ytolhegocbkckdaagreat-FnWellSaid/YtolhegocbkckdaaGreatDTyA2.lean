/-
 The form of plans' trees. Own work; no condition.
-/
import Derived.Test.YtolhegocbkckdaaGreatDTyA
import Derived.Test.YtolhegocbkckdaaGreatMg10
namespace Go.Proofs.YtolhegocbkckdaaGreat
open Go
set_option linter.unusedSimpArgs false
set_option linter.unusedVariables false
theorem ZE (e:PE) (h1:e.kids.length≤16777216) (h2:e.sub.length≤16777216) (s:S):VCalls Tryz.prog 96 [e.v] s (fun r s'=>r = .bool e.shape∧s'=s):=by
 obtain ⟨k,op,nt,v,up,pos,kids,sub⟩:=e
 simp only [PE.kids,PE.sub] at h1 h2
 simp only [PE.v,PE.shape,PE.kind,PE.op,PE.nt,PE.value,PE.up,PE.pos,PE.kids,PE.sub,Yb]
 have hQ:=fun (za zb:V) t=>Qm k op nt v (List.replicate kids.length za) (List.replicate sub.length zb) (by simpa using h1) (by simpa using h2) t
 simp only [dU,List.length_replicate] at hQ
 by_cases k2:k=2
 · subst k2
   simp only [if_true] at hQ
   refine zi.pure Tryz.func96 rfl (by kernel_rfl) (by simp) ?_
   repeat' first|(refine zf ?_;first|(refine zq.nil ?_)|(refine kG ?_;first|(refine zq.gF rfl rfl rfl ?_)|(refine zq.gU rfl rfl ?_))|(refine zU ?_;refine zq.qD zx rfl rfl rfl rfl rfl rfl rfl rfl rfl ?_)|(refine zq.ev zx rfl ?_)|(refine qW ?_;refine zq.box rfl rfl rfl rfl ?_)|(refine qj ?_;refine zq.alloc zx rfl rfl rfl rfl ?_)|(refine zo ?_;first|(refine zq.ans (zk.zm zx rfl rfl rfl rfl) ?_))|(refine zy 109 ?_;first|(refine zq.ans (zk.ze rfl rfl rfl (C8) (hQ _ _ _)) ?_)))|(refine zH ?_;first|(refine WL.seq ?_)|(refine WL.region (by kernel_rfl) ?_)|(refine WL.drawn (id:=3) [0,1,2,3,4,5,6,7,8,9,10,11,12,13,14,15,16,17,18] [17,18] [[],[0],[],[2],[],[4],[],[6],[],[8],[8,9],[8,9,10],[],[12],[12,13],[12,13,14],[0,1,2,3,4,5,6,7,8,9,10,11,12,13,14,15],[],[0,1,2,3,4,5,6,7,8,9,10,11,12,13,14,15,16,17]] (by kernel_rfl) (by kernel_rfl) ?_)|(refine WL.skip ?_)|(refine WL.ret ?_)|(refine zu ?_;first|(refine WL.qb rfl ?_)|(refine WL.qQ rfl ?_)))|(refine vN ?_;first|(refine zA.nil ?_)|(refine zA.fl rfl rfl (.ev zx rfl) ?_)|(refine zA.fl rfl rfl (zk.mkF zx rfl rfl rfl rfl rfl rfl (xU.of ?_ rfl)) ?_;(focus (omega)))|(refine zA.fl rfl rfl (zk.mkF zx rfl rfl rfl rfl rfl rfl (xU.Ev ?_ rfl)) ?_;(focus (omega)))|(refine qo rfl ?_;first|(refine zA.fl rfl rfl (zk.zm zx rfl rfl rfl rfl) ?_))|(refine uM rfl ?_;first|(refine zA.fl rfl rfl (zk.z8 zx rfl rfl rfl) ?_))|(refine zA.iY rfl rfl rfl ?_))|(refine zw ?_)|(refine zh.r1 (r := .tmp 2) (.inl rfl) (zn.tmp rfl) ?_)|(refine zX.mk ?_)|(refine And.intro ?_ ?_)|(exact xR.nil)|(refine xR.cons ?_ ?_)|(refine jG.fl rfl rfl (.ev zx rfl))|(refine jG.fl rfl rfl (zk.mkF zx rfl rfl rfl rfl rfl rfl (xU.of ?_ rfl));(focus (omega)))|(refine jG.fl rfl rfl (zk.mkF zx rfl rfl rfl rfl rfl rfl (xU.Ev ?_ rfl));(focus (omega)))|(refine jG.fl rfl rfl (zk.zm zx rfl rfl rfl rfl))|(refine jG.fl rfl rfl (zk.z8 zx rfl rfl rfl))
   simp
 · simp only [if_neg k2] at hQ
   refine zi.pure Tryz.func96 rfl (by kernel_rfl) (by simp) ?_
   repeat' first|(refine zf ?_;first|(refine zq.nil ?_)|(refine kG ?_;first|(refine zq.gT rfl rfl rfl ?_)|(refine zq.gF rfl rfl rfl ?_)|(refine zq.gD true rfl rfl rfl ?_ ?_;(focus (first|(simp <;> omega))))|(refine zq.gC rfl rfl rfl (fun h=>?_) (fun h=>?_)))|(refine zU ?_;refine zq.qD zx rfl rfl rfl rfl rfl rfl rfl rfl rfl ?_)|(refine zq.ev zx rfl ?_)|(refine qW ?_;refine zq.box rfl rfl rfl rfl ?_)|(refine qj ?_;refine zq.alloc zx rfl rfl rfl rfl ?_)|(refine zo ?_;first|(refine zq.ans (zk.zm zx rfl rfl rfl rfl) ?_))|(refine zy 109 ?_;first|(refine zq.ans (zk.ze rfl rfl rfl (C8) (hQ _ _ _)) ?_)))|(refine zH ?_;first|(refine WL.seq ?_)|(refine WL.region (by kernel_rfl) ?_)|(refine WL.drawn (id:=3) [0,1,2,3,4,5,6,7,8,9,10,11,12,13,14,15,16,17,18] [17,18] [[],[0],[],[2],[],[4],[],[6],[],[8],[8,9],[8,9,10],[],[12],[12,13],[12,13,14],[0,1,2,3,4,5,6,7,8,9,10,11,12,13,14,15],[],[0,1,2,3,4,5,6,7,8,9,10,11,12,13,14,15,16,17]] (by kernel_rfl) (by kernel_rfl) ?_)|(refine WL.skip ?_)|(refine WL.ret ?_)|(refine zu ?_;first|(refine WL.qb rfl ?_)|(refine WL.zY rfl ?_ ?_;(focus (first|(exact decide_eq_false (by assumption)))))|(refine WL.cond rfl (fun h=>?_) (fun h=>?_))))|(refine vN ?_;first|(refine zA.nil ?_)|(refine zA.fl rfl rfl (.ev zx rfl) ?_)|(refine zA.fl rfl rfl (zk.mkF zx rfl rfl rfl rfl rfl rfl (xU.of ?_ rfl)) ?_;(focus (omega)))|(refine zA.fl rfl rfl (zk.mkF zx rfl rfl rfl rfl rfl rfl (xU.Ev ?_ rfl)) ?_;(focus (omega)))|(refine qo rfl ?_;first|(refine zA.fl rfl rfl (zk.zm zx rfl rfl rfl rfl) ?_))|(refine uM rfl ?_;first|(refine zA.fl rfl rfl (zk.z8 zx rfl rfl rfl) ?_))|(refine zA.iY rfl rfl rfl ?_))|(refine zw ?_)|(refine zZ ?_)|(refine zh.r1 (r := .tmp 2) (.inl rfl) (zn.tmp rfl) ?_)|(refine zX.mk ?_)|(refine And.intro ?_ ?_)|(exact xR.nil)|(refine xR.cons ?_ ?_)|(refine jG.fl rfl rfl (.ev zx rfl))|(refine jG.fl rfl rfl (zk.mkF zx rfl rfl rfl rfl rfl rfl (xU.of ?_ rfl));(focus (omega)))|(refine jG.fl rfl rfl (zk.mkF zx rfl rfl rfl rfl rfl rfl (xU.Ev ?_ rfl));(focus (omega)))|(refine jG.fl rfl rfl (zk.zm zx rfl rfl rfl rfl))|(refine jG.fl rfl rfl (zk.z8 zx rfl rfl rfl))
   all_goals simp_all
set_option maxHeartbeats 8000000 in
theorem Qn (e:PE) (h1:e.kids.length≤16777216) (h2:e.sub.length≤16777216) (s:S):VCalls Tryz.prog 59 [e.v] s (fun r s'=>r = .bool e.shape∧s'=s):=by
 obtain ⟨k,op,nt,v,up,pos,kids,sub⟩:=e
 simp only [PE.kids,PE.sub] at h1 h2
 simp only [PE.v,PE.shape,PE.kind,PE.op,PE.nt,PE.value,PE.up,PE.pos,PE.kids,PE.sub,Yb]
 have hF:=fun a b t=>Kv k op v a b t
 by_cases k1:k=1
 · subst k1
   simp [dU,jd,kE,kY] at hF
   refine zi.pure Tryz.func59 rfl (by kernel_rfl) (by simp) ?_
   repeat' first|(refine zf ?_;first|(refine zq.nil ?_)|(refine kG ?_;first|(refine zq.gT rfl rfl rfl ?_)|(refine zq.gF rfl rfl rfl ?_)|(refine zq.gU rfl rfl ?_)|(refine zq.gC rfl rfl rfl (fun h=>?_) (fun h=>?_)))|(refine zU ?_;refine zq.qD zx rfl rfl rfl rfl rfl rfl rfl rfl rfl ?_)|(refine zq.ev zx rfl ?_)|(refine qW ?_;refine zq.box rfl rfl rfl rfl ?_)|(refine qj ?_;refine zq.alloc zx rfl rfl rfl rfl ?_)|(refine zo ?_;first|(refine zq.ans (zk.zm zx rfl rfl rfl rfl) ?_))|(refine qx ?_;first|(refine zq.ans (zk.z8 zx rfl rfl rfl) ?_))|(refine zy 89 ?_;first|(refine zq.ans (zk.ze rfl rfl rfl (Z8) (hF _ _ _)) ?_)))|(refine zH ?_;first|(refine WL.seq ?_)|(refine WL.region (by kernel_rfl) ?_)|(refine WL.ret ?_))|(refine zw ?_)|(refine zh.r1 (r := .tmp 2) (.inl rfl) (zn.tmp rfl) ?_)|(refine zX.mk ?_)
   all_goals clear hF
   all_goals try generalize kids.length=nk at *
   all_goals try generalize sub.length=ns at *
   all_goals first|(have hv:qR v=false:=jK (by assumption);simp [V.forget,zR,hv];done)|(have hv:qR v=false:=kD (by assumption);simp [V.forget,zR,hv];done)|(simp_all [V.forget,zR,qU,qR,jw];done)|(simp_all [V.forget,zR,qU,qR,jw];omega)|(rw [V.forget,V.bool.injEq,Bool.eq_iff_iff];simp_all [zR,qU,qR,jw];omega) | trace_state
 by_cases k2:k=2
 · subst k2
   simp [dU,jd,kE,kY] at hF
   refine zi.pure Tryz.func59 rfl (by kernel_rfl) (by simp) ?_
   repeat' first|(refine zf ?_;first|(refine zq.nil ?_)|(refine kG ?_;first|(refine zq.gT rfl rfl rfl ?_)|(refine zq.gF rfl rfl rfl ?_)|(refine zq.gU rfl rfl ?_)|(refine zq.gC rfl rfl rfl (fun h=>?_) (fun h=>?_)))|(refine zU ?_;refine zq.qD zx rfl rfl rfl rfl rfl rfl rfl rfl rfl ?_)|(refine zq.ev zx rfl ?_)|(refine qW ?_;refine zq.box rfl rfl rfl rfl ?_)|(refine qj ?_;refine zq.alloc zx rfl rfl rfl rfl ?_)|(refine zo ?_;first|(refine zq.ans (zk.zm zx rfl rfl rfl rfl) ?_))|(refine qx ?_;first|(refine zq.ans (zk.z8 zx rfl rfl rfl) ?_))|(refine zy 89 ?_;first|(refine zq.ans (zk.ze rfl rfl rfl (Z8) (hF _ _ _)) ?_)))|(refine zH ?_;first|(refine WL.seq ?_)|(refine WL.region (by kernel_rfl) ?_)|(refine WL.ret ?_))|(refine zw ?_)|(refine zh.r1 (r := .tmp 2) (.inl rfl) (zn.tmp rfl) ?_)|(refine zX.mk ?_)
   all_goals clear hF
   all_goals try generalize kids.length=nk at *
   all_goals try generalize sub.length=ns at *
   all_goals first|(have hv:qR v=false:=jK (by assumption);simp [V.forget,zR,hv];done)|(have hv:qR v=false:=kD (by assumption);simp [V.forget,zR,hv];done)|(simp_all [V.forget,zR,qU,qR,jw];done)|(simp_all [V.forget,zR,qU,qR,jw];omega)|(rw [V.forget,V.bool.injEq,Bool.eq_iff_iff];simp_all [zR,qU,qR,jw];omega) | trace_state
 by_cases k3:k=3
 · subst k3
   simp [dU,jd,kE,kY] at hF
   refine zi.pure Tryz.func59 rfl (by kernel_rfl) (by simp) ?_
   repeat' first|(refine zf ?_;first|(refine zq.nil ?_)|(refine kG ?_;first|(refine zq.gT rfl rfl rfl ?_)|(refine zq.gF rfl rfl rfl ?_)|(refine zq.gU rfl rfl ?_)|(refine zq.gC rfl rfl rfl (fun h=>?_) (fun h=>?_)))|(refine zU ?_;refine zq.qD zx rfl rfl rfl rfl rfl rfl rfl rfl rfl ?_)|(refine zq.ev zx rfl ?_)|(refine qW ?_;refine zq.box rfl rfl rfl rfl ?_)|(refine qj ?_;refine zq.alloc zx rfl rfl rfl rfl ?_)|(refine zo ?_;first|(refine zq.ans (zk.zm zx rfl rfl rfl rfl) ?_))|(refine qx ?_;first|(refine zq.ans (zk.z8 zx rfl rfl rfl) ?_))|(refine zy 89 ?_;first|(refine zq.ans (zk.ze rfl rfl rfl (Z8) (hF _ _ _)) ?_)))|(refine zH ?_;first|(refine WL.seq ?_)|(refine WL.region (by kernel_rfl) ?_)|(refine WL.ret ?_))|(refine zw ?_)|(refine zh.r1 (r := .tmp 2) (.inl rfl) (zn.tmp rfl) ?_)|(refine zX.mk ?_)
   all_goals clear hF
   all_goals try generalize kids.length=nk at *
   all_goals try generalize sub.length=ns at *
   all_goals first|(have hv:qR v=false:=jK (by assumption);simp [V.forget,zR,hv];done)|(have hv:qR v=false:=kD (by assumption);simp [V.forget,zR,hv];done)|(simp_all [V.forget,zR,qU,qR,jw];done)|(simp_all [V.forget,zR,qU,qR,jw];omega)|(rw [V.forget,V.bool.injEq,Bool.eq_iff_iff];simp_all [zR,qU,qR,jw];omega) | trace_state
 by_cases k4:k=4
 · subst k4
   simp [dU,jd,kE,kY] at hF
   refine zi.pure Tryz.func59 rfl (by kernel_rfl) (by simp) ?_
   repeat' first|(refine zf ?_;first|(refine zq.nil ?_)|(refine kG ?_;first|(refine zq.gT rfl rfl rfl ?_)|(refine zq.gF rfl rfl rfl ?_)|(refine zq.gU rfl rfl ?_)|(refine zq.gC rfl rfl rfl (fun h=>?_) (fun h=>?_)))|(refine zU ?_;refine zq.qD zx rfl rfl rfl rfl rfl rfl rfl rfl rfl ?_)|(refine zq.ev zx rfl ?_)|(refine qW ?_;refine zq.box rfl rfl rfl rfl ?_)|(refine qj ?_;refine zq.alloc zx rfl rfl rfl rfl ?_)|(refine zo ?_;first|(refine zq.ans (zk.zm zx rfl rfl rfl rfl) ?_))|(refine qx ?_;first|(refine zq.ans (zk.z8 zx rfl rfl rfl) ?_))|(refine zy 89 ?_;first|(refine zq.ans (zk.ze rfl rfl rfl (Z8) (hF _ _ _)) ?_)))|(refine zH ?_;first|(refine WL.seq ?_)|(refine WL.region (by kernel_rfl) ?_)|(refine WL.ret ?_))|(refine zw ?_)|(refine zh.r1 (r := .tmp 2) (.inl rfl) (zn.tmp rfl) ?_)|(refine zX.mk ?_)
   all_goals clear hF
   all_goals try generalize kids.length=nk at *
   all_goals try generalize sub.length=ns at *
   all_goals first|(have hv:qR v=false:=jK (by assumption);simp [V.forget,zR,hv];done)|(have hv:qR v=false:=kD (by assumption);simp [V.forget,zR,hv];done)|(simp_all [V.forget,zR,qU,qR,jw];done)|(simp_all [V.forget,zR,qU,qR,jw];omega)|(rw [V.forget,V.bool.injEq,Bool.eq_iff_iff];simp_all [zR,qU,qR,jw];omega) | trace_state
 by_cases k5:k=5
 · subst k5
   simp [dU,jd,kE,kY] at hF
   refine zi.pure Tryz.func59 rfl (by kernel_rfl) (by simp) ?_
   repeat' first|(refine zf ?_;first|(refine zq.nil ?_)|(refine kG ?_;first|(refine zq.gT rfl rfl rfl ?_)|(refine zq.gF rfl rfl rfl ?_)|(refine zq.gU rfl rfl ?_)|(refine zq.gC rfl rfl rfl (fun h=>?_) (fun h=>?_)))|(refine zU ?_;refine zq.qD zx rfl rfl rfl rfl rfl rfl rfl rfl rfl ?_)|(refine zq.ev zx rfl ?_)|(refine qW ?_;refine zq.box rfl rfl rfl rfl ?_)|(refine qj ?_;refine zq.alloc zx rfl rfl rfl rfl ?_)|(refine zo ?_;first|(refine zq.ans (zk.zm zx rfl rfl rfl rfl) ?_))|(refine qx ?_;first|(refine zq.ans (zk.z8 zx rfl rfl rfl) ?_))|(refine zy 89 ?_;first|(refine zq.ans (zk.ze rfl rfl rfl (Z8) (hF _ _ _)) ?_)))|(refine zH ?_;first|(refine WL.seq ?_)|(refine WL.region (by kernel_rfl) ?_)|(refine WL.ret ?_))|(refine zw ?_)|(refine zh.r1 (r := .tmp 2) (.inl rfl) (zn.tmp rfl) ?_)|(refine zX.mk ?_)
   all_goals clear hF
   all_goals try generalize kids.length=nk at *
   all_goals try generalize sub.length=ns at *
   all_goals first|(have hv:qR v=false:=jK (by assumption);simp [V.forget,zR,hv];done)|(have hv:qR v=false:=kD (by assumption);simp [V.forget,zR,hv];done)|(simp_all [V.forget,zR,qU,qR,jw];done)|(simp_all [V.forget,zR,qU,qR,jw];omega)|(rw [V.forget,V.bool.injEq,Bool.eq_iff_iff];simp_all [zR,qU,qR,jw];omega) | trace_state
 by_cases k6:k=6
 · subst k6
   simp [dU,jd,kE,kY] at hF
   refine zi.pure Tryz.func59 rfl (by kernel_rfl) (by simp) ?_
   repeat' first|(refine zf ?_;first|(refine zq.nil ?_)|(refine kG ?_;first|(refine zq.gT rfl rfl rfl ?_)|(refine zq.gF rfl rfl rfl ?_)|(refine zq.gU rfl rfl ?_)|(refine zq.gC rfl rfl rfl (fun h=>?_) (fun h=>?_)))|(refine zU ?_;refine zq.qD zx rfl rfl rfl rfl rfl rfl rfl rfl rfl ?_)|(refine zq.ev zx rfl ?_)|(refine qW ?_;refine zq.box rfl rfl rfl rfl ?_)|(refine qj ?_;refine zq.alloc zx rfl rfl rfl rfl ?_)|(refine zo ?_;first|(refine zq.ans (zk.zm zx rfl rfl rfl rfl) ?_))|(refine qx ?_;first|(refine zq.ans (zk.z8 zx rfl rfl rfl) ?_))|(refine zy 89 ?_;first|(refine zq.ans (zk.ze rfl rfl rfl (Z8) (hF _ _ _)) ?_)))|(refine zH ?_;first|(refine WL.seq ?_)|(refine WL.region (by kernel_rfl) ?_)|(refine WL.ret ?_))|(refine zw ?_)|(refine zh.r1 (r := .tmp 2) (.inl rfl) (zn.tmp rfl) ?_)|(refine zX.mk ?_)
   all_goals clear hF
   all_goals try generalize kids.length=nk at *
   all_goals try generalize sub.length=ns at *
   all_goals first|(have hv:qR v=false:=jK (by assumption);simp [V.forget,zR,hv];done)|(have hv:qR v=false:=kD (by assumption);simp [V.forget,zR,hv];done)|(simp_all [V.forget,zR,qU,qR,jw];done)|(simp_all [V.forget,zR,qU,qR,jw];omega)|(rw [V.forget,V.bool.injEq,Bool.eq_iff_iff];simp_all [zR,qU,qR,jw];omega) | trace_state
 by_cases k7:k=7
 · subst k7
   simp [dU,jd,kE,kY] at hF
   refine zi.pure Tryz.func59 rfl (by kernel_rfl) (by simp) ?_
   repeat' first|(refine zf ?_;first|(refine zq.nil ?_)|(refine kG ?_;first|(refine zq.gT rfl rfl rfl ?_)|(refine zq.gF rfl rfl rfl ?_)|(refine zq.gU rfl rfl ?_)|(refine zq.gC rfl rfl rfl (fun h=>?_) (fun h=>?_)))|(refine zU ?_;refine zq.qD zx rfl rfl rfl rfl rfl rfl rfl rfl rfl ?_)|(refine zq.ev zx rfl ?_)|(refine qW ?_;refine zq.box rfl rfl rfl rfl ?_)|(refine qj ?_;refine zq.alloc zx rfl rfl rfl rfl ?_)|(refine zo ?_;first|(refine zq.ans (zk.zm zx rfl rfl rfl rfl) ?_))|(refine qx ?_;first|(refine zq.ans (zk.z8 zx rfl rfl rfl) ?_))|(refine zy 89 ?_;first|(refine zq.ans (zk.ze rfl rfl rfl (Z8) (hF _ _ _)) ?_)))|(refine zH ?_;first|(refine WL.seq ?_)|(refine WL.region (by kernel_rfl) ?_)|(refine WL.ret ?_))|(refine zw ?_)|(refine zh.r1 (r := .tmp 2) (.inl rfl) (zn.tmp rfl) ?_)|(refine zX.mk ?_)
   all_goals clear hF
   all_goals try generalize kids.length=nk at *
   all_goals try generalize sub.length=ns at *
   all_goals first|(have hv:qR v=false:=jK (by assumption);simp [V.forget,zR,hv];done)|(have hv:qR v=false:=kD (by assumption);simp [V.forget,zR,hv];done)|(simp_all [V.forget,zR,qU,qR,jw];done)|(simp_all [V.forget,zR,qU,qR,jw];omega)|(rw [V.forget,V.bool.injEq,Bool.eq_iff_iff];simp_all [zR,qU,qR,jw];omega) | trace_state
 by_cases k8:k=8
 · subst k8
   simp [dU,jd,kE,kY] at hF
   refine zi.pure Tryz.func59 rfl (by kernel_rfl) (by simp) ?_
   repeat' first|(refine zf ?_;first|(refine zq.nil ?_)|(refine kG ?_;first|(refine zq.gT rfl rfl rfl ?_)|(refine zq.gF rfl rfl rfl ?_)|(refine zq.gU rfl rfl ?_)|(refine zq.gC rfl rfl rfl (fun h=>?_) (fun h=>?_)))|(refine zU ?_;refine zq.qD zx rfl rfl rfl rfl rfl rfl rfl rfl rfl ?_)|(refine zq.ev zx rfl ?_)|(refine qW ?_;refine zq.box rfl rfl rfl rfl ?_)|(refine qj ?_;refine zq.alloc zx rfl rfl rfl rfl ?_)|(refine zo ?_;first|(refine zq.ans (zk.zm zx rfl rfl rfl rfl) ?_))|(refine qx ?_;first|(refine zq.ans (zk.z8 zx rfl rfl rfl) ?_))|(refine zy 89 ?_;first|(refine zq.ans (zk.ze rfl rfl rfl (Z8) (hF _ _ _)) ?_)))|(refine zH ?_;first|(refine WL.seq ?_)|(refine WL.region (by kernel_rfl) ?_)|(refine WL.ret ?_))|(refine zw ?_)|(refine zh.r1 (r := .tmp 2) (.inl rfl) (zn.tmp rfl) ?_)|(refine zX.mk ?_)
   all_goals clear hF
   all_goals try generalize kids.length=nk at *
   all_goals try generalize sub.length=ns at *
   all_goals first|(have hv:qR v=false:=jK (by assumption);simp [V.forget,zR,hv];done)|(have hv:qR v=false:=kD (by assumption);simp [V.forget,zR,hv];done)|(simp_all [V.forget,zR,qU,qR,jw];done)|(simp_all [V.forget,zR,qU,qR,jw];omega)|(rw [V.forget,V.bool.injEq,Bool.eq_iff_iff];simp_all [zR,qU,qR,jw];omega) | trace_state
 by_cases k9:k=9
 · subst k9
   simp [dU,jd,kE,kY] at hF
   refine zi.pure Tryz.func59 rfl (by kernel_rfl) (by simp) ?_
   repeat' first|(refine zf ?_;first|(refine zq.nil ?_)|(refine kG ?_;first|(refine zq.gT rfl rfl rfl ?_)|(refine zq.gF rfl rfl rfl ?_)|(refine zq.gU rfl rfl ?_)|(refine zq.gC rfl rfl rfl (fun h=>?_) (fun h=>?_)))|(refine zU ?_;refine zq.qD zx rfl rfl rfl rfl rfl rfl rfl rfl rfl ?_)|(refine zq.ev zx rfl ?_)|(refine qW ?_;refine zq.box rfl rfl rfl rfl ?_)|(refine qj ?_;refine zq.alloc zx rfl rfl rfl rfl ?_)|(refine zo ?_;first|(refine zq.ans (zk.zm zx rfl rfl rfl rfl) ?_))|(refine qx ?_;first|(refine zq.ans (zk.z8 zx rfl rfl rfl) ?_))|(refine zy 89 ?_;first|(refine zq.ans (zk.ze rfl rfl rfl (Z8) (hF _ _ _)) ?_)))|(refine zH ?_;first|(refine WL.seq ?_)|(refine WL.region (by kernel_rfl) ?_)|(refine WL.ret ?_))|(refine zw ?_)|(refine zh.r1 (r := .tmp 2) (.inl rfl) (zn.tmp rfl) ?_)|(refine zX.mk ?_)
   all_goals clear hF
   all_goals try generalize kids.length=nk at *
   all_goals try generalize sub.length=ns at *
   all_goals first|(have hv:qR v=false:=jK (by assumption);simp [V.forget,zR,hv];done)|(have hv:qR v=false:=kD (by assumption);simp [V.forget,zR,hv];done)|(simp_all [V.forget,zR,qU,qR,jw];done)|(simp_all [V.forget,zR,qU,qR,jw];omega)|(rw [V.forget,V.bool.injEq,Bool.eq_iff_iff];simp_all [zR,qU,qR,jw];omega) | trace_state
 · simp [dU, jd, kE, kY, k1, k2, k3, k4, k5, k6, k7, k8, k9] at hF
   have hk:¬ (5≤k∧k≤9):=by omega
   refine zi.pure Tryz.func59 rfl (by kernel_rfl) (by simp) ?_
   repeat' first|(refine zf ?_;first|(refine zq.nil ?_)|(refine kG ?_;first|(refine zq.gT rfl rfl rfl ?_)|(refine zq.gF rfl rfl rfl ?_)|(refine zq.gU rfl rfl ?_)|(refine zq.gC rfl rfl rfl (fun h=>?_) (fun h=>?_)))|(refine zU ?_;refine zq.qD zx rfl rfl rfl rfl rfl rfl rfl rfl rfl ?_)|(refine zq.ev zx rfl ?_)|(refine qW ?_;refine zq.box rfl rfl rfl rfl ?_)|(refine qj ?_;refine zq.alloc zx rfl rfl rfl rfl ?_)|(refine zo ?_;first|(refine zq.ans (zk.zm zx rfl rfl rfl rfl) ?_))|(refine qx ?_;first|(refine zq.ans (zk.z8 zx rfl rfl rfl) ?_))|(refine zy 89 ?_;first|(refine zq.ans (zk.ze rfl rfl rfl (Z8) (hF _ _ _)) ?_)))|(refine zH ?_;first|(refine WL.seq ?_)|(refine WL.region (by kernel_rfl) ?_)|(refine WL.ret ?_))|(refine zw ?_)|(refine zh.r1 (r := .tmp 2) (.inl rfl) (zn.tmp rfl) ?_)|(refine zX.mk ?_)
   all_goals clear hF
   all_goals try generalize kids.length=nk at *
   all_goals try generalize sub.length=ns at *
   all_goals first|(have hv:qR v=false:=jK (by assumption);simp [V.forget,zR,hv];done)|(have hv:qR v=false:=kD (by assumption);simp [V.forget,zR,hv];done)|(simp_all [V.forget,zR,qU,qR,jw];done)|(simp_all [V.forget,zR,qU,qR,jw];omega)|(rw [V.forget,V.bool.injEq,Bool.eq_iff_iff];simp_all [zR,qU,qR,jw];omega) | trace_state
end Go.Proofs.YtolhegocbkckdaaGreat
