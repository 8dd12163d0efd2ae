/-
 The form of plans' trees. Own work; no condition.
-/
import Derived.Test.YtolhegocbkckdaaDTyA
import Derived.Test.YtolhegocbkckdaaMg20
namespace Go.Proofs.Ytolhegocbkckdaa
open Go
set_option linter.unusedSimpArgs false
set_option linter.unusedVariables false
theorem specl20Shape_v (e:PE) (h1:e.kids.length≤16777216) (h2:e.sub.length≤16777216) (s:S):VCalls Try.prog 66 [e.v] s (fun r s'=>r = .bool e.shape∧s'=s):=by
 obtain ⟨k,op,nt,v,up,pos,kids,sub⟩:=e
 simp only [PE.kids,PE.sub] at h1 h2
 simp only [PE.v,PE.shape,PE.kind,PE.op,PE.nt,PE.value,PE.up,PE.pos,PE.kids,PE.sub,shape_q]
 have hQ:=fun (za zb:V) t=>specl7Shape_v k op nt v (List.replicate kids.length za) (List.replicate sub.length zb) (by simpa using h1) (by simpa using h2) t
 simp only [exprV,List.length_replicate] at hQ
 by_cases k2:k=2
 · subst k2
   simp only [if_true] at hQ
   refine LCalls.pure Try.func66 rfl (by kernel_rfl) (by simp) ?_
   repeat' first |(refine kOps ?_;first |(refine LOps.nil ?_) |(refine kG ?_;first |(refine LOps.gF rfl rfl rfl ?_) |(refine LOps.gU rfl rfl ?_)) |(refine kStore ?_;refine LOps.storeP tT_ok rfl rfl rfl rfl rfl rfl rfl rfl rfl ?_) |(refine LOps.ev tT_ok rfl ?_) |(refine kBox ?_;refine LOps.box rfl rfl rfl rfl ?_) |(refine kAlloc ?_;refine LOps.alloc tT_ok rfl rfl rfl rfl ?_) |(refine kLoad ?_;first |(refine LOps.ans (AnsL.loadP tT_ok rfl rfl rfl rfl) ?_)) |(refine kCallN 112 ?_;first |(refine LOps.ans (AnsL.callP rfl rfl rfl (ok112) (hQ _ _ _)) ?_))) |(refine kWL ?_;first |(refine WL.seq ?_) |(refine WL.region (by kernel_rfl) ?_) |(refine WL.drawn (id:=3) [0,1,2,3,4,5,6,7,8,9,10,11,12,13,14,15,16,17,18] [17,18] [[],[0],[],[2],[],[4],[],[6],[],[8],[8,9],[8,9,10],[],[12],[12,13],[12,13,14],[0,1,2,3,4,5,6,7,8,9,10,11,12,13,14,15],[],[0,1,2,3,4,5,6,7,8,9,10,11,12,13,14,15,16,17]] (by kernel_rfl) (by kernel_rfl) ?_) |(refine WL.skip ?_) |(refine WL.ret ?_) |(refine kCond ?_;first |(refine WL.condT rfl ?_) |(refine WL.condF rfl ?_))) |(refine kDr ?_;first |(refine LDr.nil ?_) |(refine LDr.fl rfl rfl (.ev tT_ok rfl) ?_) |(refine LDr.fl rfl rfl (AnsL.mkF tT_ok rfl rfl rfl rfl rfl rfl (AppB.of ?_ rfl)) ?_;(focus (omega))) |(refine LDr.fl rfl rfl (AnsL.mkF tT_ok rfl rfl rfl rfl rfl rfl (AppB.ofW ?_ rfl)) ?_;(focus (omega))) |(refine kDLoad rfl ?_;first |(refine LDr.fl rfl rfl (AnsL.loadP tT_ok rfl rfl rfl rfl) ?_)) |(refine kDLen rfl ?_;first |(refine LDr.fl rfl rfl (AnsL.lenM tT_ok rfl rfl rfl) ?_)) |(refine LDr.eff rfl rfl rfl ?_)) |(refine lthen_n ?_) |(refine LPost.r1 (r := .tmp 2) (.inl rfl) (Res1.tmp rfl) ?_) |(refine PureR.mk ?_) |(refine And.intro ?_ ?_) |(exact StsL.nil) |(refine StsL.cons ?_ ?_) |(refine StL.fl rfl rfl (.ev tT_ok rfl)) |(refine StL.fl rfl rfl (AnsL.mkF tT_ok rfl rfl rfl rfl rfl rfl (AppB.of ?_ rfl));(focus (omega))) |(refine StL.fl rfl rfl (AnsL.mkF tT_ok rfl rfl rfl rfl rfl rfl (AppB.ofW ?_ rfl));(focus (omega))) |(refine StL.fl rfl rfl (AnsL.loadP tT_ok rfl rfl rfl rfl)) |(refine StL.fl rfl rfl (AnsL.lenM tT_ok rfl rfl rfl))
   simp
 · simp only [if_neg k2] at hQ
   refine LCalls.pure Try.func66 rfl (by kernel_rfl) (by simp) ?_
   repeat' first |(refine kOps ?_;first |(refine LOps.nil ?_) |(refine kG ?_;first |(refine LOps.gT rfl rfl rfl ?_) |(refine LOps.gF rfl rfl rfl ?_) |(refine LOps.gD true rfl rfl rfl ?_ ?_;(focus (first |(simp <;> omega)))) |(refine LOps.gC rfl rfl rfl (fun h=>?_) (fun h=>?_))) |(refine kStore ?_;refine LOps.storeP tT_ok rfl rfl rfl rfl rfl rfl rfl rfl rfl ?_) |(refine LOps.ev tT_ok rfl ?_) |(refine kBox ?_;refine LOps.box rfl rfl rfl rfl ?_) |(refine kAlloc ?_;refine LOps.alloc tT_ok rfl rfl rfl rfl ?_) |(refine kLoad ?_;first |(refine LOps.ans (AnsL.loadP tT_ok rfl rfl rfl rfl) ?_)) |(refine kCallN 112 ?_;first |(refine LOps.ans (AnsL.callP rfl rfl rfl (ok112) (hQ _ _ _)) ?_))) |(refine kWL ?_;first |(refine WL.seq ?_) |(refine WL.region (by kernel_rfl) ?_) |(refine WL.drawn (id:=3) [0,1,2,3,4,5,6,7,8,9,10,11,12,13,14,15,16,17,18] [17,18] [[],[0],[],[2],[],[4],[],[6],[],[8],[8,9],[8,9,10],[],[12],[12,13],[12,13,14],[0,1,2,3,4,5,6,7,8,9,10,11,12,13,14,15],[],[0,1,2,3,4,5,6,7,8,9,10,11,12,13,14,15,16,17]] (by kernel_rfl) (by kernel_rfl) ?_) |(refine WL.skip ?_) |(refine WL.ret ?_) |(refine kCond ?_;first |(refine WL.condT rfl ?_) |(refine WL.condF' rfl ?_ ?_;(focus (first |(exact decide_eq_false (by assumption))))) |(refine WL.cond rfl (fun h=>?_) (fun h=>?_)))) |(refine kDr ?_;first |(refine LDr.nil ?_) |(refine LDr.fl rfl rfl (.ev tT_ok rfl) ?_) |(refine LDr.fl rfl rfl (AnsL.mkF tT_ok rfl rfl rfl rfl rfl rfl (AppB.of ?_ rfl)) ?_;(focus (omega))) |(refine LDr.fl rfl rfl (AnsL.mkF tT_ok rfl rfl rfl rfl rfl rfl (AppB.ofW ?_ rfl)) ?_;(focus (omega))) |(refine kDLoad rfl ?_;first |(refine LDr.fl rfl rfl (AnsL.loadP tT_ok rfl rfl rfl rfl) ?_)) |(refine kDLen rfl ?_;first |(refine LDr.fl rfl rfl (AnsL.lenM tT_ok rfl rfl rfl) ?_)) |(refine LDr.eff rfl rfl rfl ?_)) |(refine lthen_n ?_) |(refine lthen_r ?_) |(refine LPost.r1 (r := .tmp 2) (.inl rfl) (Res1.tmp rfl) ?_) |(refine PureR.mk ?_) |(refine And.intro ?_ ?_) |(exact StsL.nil) |(refine StsL.cons ?_ ?_) |(refine StL.fl rfl rfl (.ev tT_ok rfl)) |(refine StL.fl rfl rfl (AnsL.mkF tT_ok rfl rfl rfl rfl rfl rfl (AppB.of ?_ rfl));(focus (omega))) |(refine StL.fl rfl rfl (AnsL.mkF tT_ok rfl rfl rfl rfl rfl rfl (AppB.ofW ?_ rfl));(focus (omega))) |(refine StL.fl rfl rfl (AnsL.loadP tT_ok rfl rfl rfl rfl)) |(refine StL.fl rfl rfl (AnsL.lenM tT_ok rfl rfl rfl))
   all_goals simp_all
set_option maxHeartbeats 8000000 in
theorem implhasForm_v (e:PE) (h1:e.kids.length≤16777216) (h2:e.sub.length≤16777216) (s:S):VCalls Try.prog 63 [e.v] s (fun r s'=>r = .bool e.shape∧s'=s):=by
 obtain ⟨k,op,nt,v,up,pos,kids,sub⟩:=e
 simp only [PE.kids,PE.sub] at h1 h2
 simp only [PE.v,PE.shape,PE.kind,PE.op,PE.nt,PE.value,PE.up,PE.pos,PE.kids,PE.sub,shape_q]
 have hF:=fun a b t=>implformOf_v k op v a b t
 by_cases k1:k=1
 · subst k1
   simp [exprV,formV,formF,formOk] at hF
   refine LCalls.pure Try.func63 rfl (by kernel_rfl) (by simp) ?_
   repeat' first |(refine kOps ?_;first |(refine LOps.nil ?_) |(refine kG ?_;first |(refine LOps.gT rfl rfl rfl ?_) |(refine LOps.gF rfl rfl rfl ?_) |(refine LOps.gU rfl rfl ?_) |(refine LOps.gC rfl rfl rfl (fun h=>?_) (fun h=>?_))) |(refine kStore ?_;refine LOps.storeP tT_ok rfl rfl rfl rfl rfl rfl rfl rfl rfl ?_) |(refine LOps.ev tT_ok rfl ?_) |(refine kBox ?_;refine LOps.box rfl rfl rfl rfl ?_) |(refine kAlloc ?_;refine LOps.alloc tT_ok rfl rfl rfl rfl ?_) |(refine kLoad ?_;first |(refine LOps.ans (AnsL.loadP tT_ok rfl rfl rfl rfl) ?_)) |(refine kLen ?_;first |(refine LOps.ans (AnsL.lenM tT_ok rfl rfl rfl) ?_)) |(refine kCallN 103 ?_;first |(refine LOps.ans (AnsL.callP rfl rfl rfl (ok103) (hF _ _ _)) ?_))) |(refine kWL ?_;first |(refine WL.seq ?_) |(refine WL.region (by kernel_rfl) ?_) |(refine WL.ret ?_)) |(refine lthen_n ?_) |(refine LPost.r1 (r := .tmp 2) (.inl rfl) (Res1.tmp rfl) ?_) |(refine PureR.mk ?_)
   all_goals clear hF
   all_goals try generalize kids.length=nk at *
   all_goals try generalize sub.length=ns at *
   all_goals first |(have hv:val0 v=false:=val0_no (by assumption);simp [V.forget,ShapeQ,hv];done) |(have hv:val0 v=false:=val0_eqn (by assumption);simp [V.forget,ShapeQ,hv];done) |(simp_all [V.forget,ShapeQ,KindOk,val0,inR];done) |(simp_all [V.forget,ShapeQ,KindOk,val0,inR];omega) |(rw [V.forget,V.bool.injEq,Bool.eq_iff_iff];simp_all [ShapeQ,KindOk,val0,inR];omega) | trace_state
 by_cases k2:k=2
 · subst k2
   simp [exprV,formV,formF,formOk] at hF
   refine LCalls.pure Try.func63 rfl (by kernel_rfl) (by simp) ?_
   repeat' first |(refine kOps ?_;first |(refine LOps.nil ?_) |(refine kG ?_;first |(refine LOps.gT rfl rfl rfl ?_) |(refine LOps.gF rfl rfl rfl ?_) |(refine LOps.gU rfl rfl ?_) |(refine LOps.gC rfl rfl rfl (fun h=>?_) (fun h=>?_))) |(refine kStore ?_;refine LOps.storeP tT_ok rfl rfl rfl rfl rfl rfl rfl rfl rfl ?_) |(refine LOps.ev tT_ok rfl ?_) |(refine kBox ?_;refine LOps.box rfl rfl rfl rfl ?_) |(refine kAlloc ?_;refine LOps.alloc tT_ok rfl rfl rfl rfl ?_) |(refine kLoad ?_;first |(refine LOps.ans (AnsL.loadP tT_ok rfl rfl rfl rfl) ?_)) |(refine kLen ?_;first |(refine LOps.ans (AnsL.lenM tT_ok rfl rfl rfl) ?_)) |(refine kCallN 103 ?_;first |(refine LOps.ans (AnsL.callP rfl rfl rfl (ok103) (hF _ _ _)) ?_))) |(refine kWL ?_;first |(refine WL.seq ?_) |(refine WL.region (by kernel_rfl) ?_) |(refine WL.ret ?_)) |(refine lthen_n ?_) |(refine LPost.r1 (r := .tmp 2) (.inl rfl) (Res1.tmp rfl) ?_) |(refine PureR.mk ?_)
   all_goals clear hF
   all_goals try generalize kids.length=nk at *
   all_goals try generalize sub.length=ns at *
   all_goals first |(have hv:val0 v=false:=val0_no (by assumption);simp [V.forget,ShapeQ,hv];done) |(have hv:val0 v=false:=val0_eqn (by assumption);simp [V.forget,ShapeQ,hv];done) |(simp_all [V.forget,ShapeQ,KindOk,val0,inR];done) |(simp_all [V.forget,ShapeQ,KindOk,val0,inR];omega) |(rw [V.forget,V.bool.injEq,Bool.eq_iff_iff];simp_all [ShapeQ,KindOk,val0,inR];omega) | trace_state
 by_cases k3:k=3
 · subst k3
   simp [exprV,formV,formF,formOk] at hF
   refine LCalls.pure Try.func63 rfl (by kernel_rfl) (by simp) ?_
   repeat' first |(refine kOps ?_;first |(refine LOps.nil ?_) |(refine kG ?_;first |(refine LOps.gT rfl rfl rfl ?_) |(refine LOps.gF rfl rfl rfl ?_) |(refine LOps.gU rfl rfl ?_) |(refine LOps.gC rfl rfl rfl (fun h=>?_) (fun h=>?_))) |(refine kStore ?_;refine LOps.storeP tT_ok rfl rfl rfl rfl rfl rfl rfl rfl rfl ?_) |(refine LOps.ev tT_ok rfl ?_) |(refine kBox ?_;refine LOps.box rfl rfl rfl rfl ?_) |(refine kAlloc ?_;refine LOps.alloc tT_ok rfl rfl rfl rfl ?_) |(refine kLoad ?_;first |(refine LOps.ans (AnsL.loadP tT_ok rfl rfl rfl rfl) ?_)) |(refine kLen ?_;first |(refine LOps.ans (AnsL.lenM tT_ok rfl rfl rfl) ?_)) |(refine kCallN 103 ?_;first |(refine LOps.ans (AnsL.callP rfl rfl rfl (ok103) (hF _ _ _)) ?_))) |(refine kWL ?_;first |(refine WL.seq ?_) |(refine WL.region (by kernel_rfl) ?_) |(refine WL.ret ?_)) |(refine lthen_n ?_) |(refine LPost.r1 (r := .tmp 2) (.inl rfl) (Res1.tmp rfl) ?_) |(refine PureR.mk ?_)
   all_goals clear hF
   all_goals try generalize kids.length=nk at *
   all_goals try generalize sub.length=ns at *
   all_goals first |(have hv:val0 v=false:=val0_no (by assumption);simp [V.forget,ShapeQ,hv];done) |(have hv:val0 v=false:=val0_eqn (by assumption);simp [V.forget,ShapeQ,hv];done) |(simp_all [V.forget,ShapeQ,KindOk,val0,inR];done) |(simp_all [V.forget,ShapeQ,KindOk,val0,inR];omega) |(rw [V.forget,V.bool.injEq,Bool.eq_iff_iff];simp_all [ShapeQ,KindOk,val0,inR];omega) | trace_state
 by_cases k4:k=4
 · subst k4
   simp [exprV,formV,formF,formOk] at hF
   refine LCalls.pure Try.func63 rfl (by kernel_rfl) (by simp) ?_
   repeat' first |(refine kOps ?_;first |(refine LOps.nil ?_) |(refine kG ?_;first |(refine LOps.gT rfl rfl rfl ?_) |(refine LOps.gF rfl rfl rfl ?_) |(refine LOps.gU rfl rfl ?_) |(refine LOps.gC rfl rfl rfl (fun h=>?_) (fun h=>?_))) |(refine kStore ?_;refine LOps.storeP tT_ok rfl rfl rfl rfl rfl rfl rfl rfl rfl ?_) |(refine LOps.ev tT_ok rfl ?_) |(refine kBox ?_;refine LOps.box rfl rfl rfl rfl ?_) |(refine kAlloc ?_;refine LOps.alloc tT_ok rfl rfl rfl rfl ?_) |(refine kLoad ?_;first |(refine LOps.ans (AnsL.loadP tT_ok rfl rfl rfl rfl) ?_)) |(refine kLen ?_;first |(refine LOps.ans (AnsL.lenM tT_ok rfl rfl rfl) ?_)) |(refine kCallN 103 ?_;first |(refine LOps.ans (AnsL.callP rfl rfl rfl (ok103) (hF _ _ _)) ?_))) |(refine kWL ?_;first |(refine WL.seq ?_) |(refine WL.region (by kernel_rfl) ?_) |(refine WL.ret ?_)) |(refine lthen_n ?_) |(refine LPost.r1 (r := .tmp 2) (.inl rfl) (Res1.tmp rfl) ?_) |(refine PureR.mk ?_)
   all_goals clear hF
   all_goals try generalize kids.length=nk at *
   all_goals try generalize sub.length=ns at *
   all_goals first |(have hv:val0 v=false:=val0_no (by assumption);simp [V.forget,ShapeQ,hv];done) |(have hv:val0 v=false:=val0_eqn (by assumption);simp [V.forget,ShapeQ,hv];done) |(simp_all [V.forget,ShapeQ,KindOk,val0,inR];done) |(simp_all [V.forget,ShapeQ,KindOk,val0,inR];omega) |(rw [V.forget,V.bool.injEq,Bool.eq_iff_iff];simp_all [ShapeQ,KindOk,val0,inR];omega) | trace_state
 by_cases k5:k=5
 · subst k5
   simp [exprV,formV,formF,formOk] at hF
   refine LCalls.pure Try.func63 rfl (by kernel_rfl) (by simp) ?_
   repeat' first |(refine kOps ?_;first |(refine LOps.nil ?_) |(refine kG ?_;first |(refine LOps.gT rfl rfl rfl ?_) |(refine LOps.gF rfl rfl rfl ?_) |(refine LOps.gU rfl rfl ?_) |(refine LOps.gC rfl rfl rfl (fun h=>?_) (fun h=>?_))) |(refine kStore ?_;refine LOps.storeP tT_ok rfl rfl rfl rfl rfl rfl rfl rfl rfl ?_) |(refine LOps.ev tT_ok rfl ?_) |(refine kBox ?_;refine LOps.box rfl rfl rfl rfl ?_) |(refine kAlloc ?_;refine LOps.alloc tT_ok rfl rfl rfl rfl ?_) |(refine kLoad ?_;first |(refine LOps.ans (AnsL.loadP tT_ok rfl rfl rfl rfl) ?_)) |(refine kLen ?_;first |(refine LOps.ans (AnsL.lenM tT_ok rfl rfl rfl) ?_)) |(refine kCallN 103 ?_;first |(refine LOps.ans (AnsL.callP rfl rfl rfl (ok103) (hF _ _ _)) ?_))) |(refine kWL ?_;first |(refine WL.seq ?_) |(refine WL.region (by kernel_rfl) ?_) |(refine WL.ret ?_)) |(refine lthen_n ?_) |(refine LPost.r1 (r := .tmp 2) (.inl rfl) (Res1.tmp rfl) ?_) |(refine PureR.mk ?_)
   all_goals clear hF
   all_goals try generalize kids.length=nk at *
   all_goals try generalize sub.length=ns at *
   all_goals first |(have hv:val0 v=false:=val0_no (by assumption);simp [V.forget,ShapeQ,hv];done) |(have hv:val0 v=false:=val0_eqn (by assumption);simp [V.forget,ShapeQ,hv];done) |(simp_all [V.forget,ShapeQ,KindOk,val0,inR];done) |(simp_all [V.forget,ShapeQ,KindOk,val0,inR];omega) |(rw [V.forget,V.bool.injEq,Bool.eq_iff_iff];simp_all [ShapeQ,KindOk,val0,inR];omega) | trace_state
 by_cases k6:k=6
 · subst k6
   simp [exprV,formV,formF,formOk] at hF
   refine LCalls.pure Try.func63 rfl (by kernel_rfl) (by simp) ?_
   repeat' first |(refine kOps ?_;first |(refine LOps.nil ?_) |(refine kG ?_;first |(refine LOps.gT rfl rfl rfl ?_) |(refine LOps.gF rfl rfl rfl ?_) |(refine LOps.gU rfl rfl ?_) |(refine LOps.gC rfl rfl rfl (fun h=>?_) (fun h=>?_))) |(refine kStore ?_;refine LOps.storeP tT_ok rfl rfl rfl rfl rfl rfl rfl rfl rfl ?_) |(refine LOps.ev tT_ok rfl ?_) |(refine kBox ?_;refine LOps.box rfl rfl rfl rfl ?_) |(refine kAlloc ?_;refine LOps.alloc tT_ok rfl rfl rfl rfl ?_) |(refine kLoad ?_;first |(refine LOps.ans (AnsL.loadP tT_ok rfl rfl rfl rfl) ?_)) |(refine kLen ?_;first |(refine LOps.ans (AnsL.lenM tT_ok rfl rfl rfl) ?_)) |(refine kCallN 103 ?_;first |(refine LOps.ans (AnsL.callP rfl rfl rfl (ok103) (hF _ _ _)) ?_))) |(refine kWL ?_;first |(refine WL.seq ?_) |(refine WL.region (by kernel_rfl) ?_) |(refine WL.ret ?_)) |(refine lthen_n ?_) |(refine LPost.r1 (r := .tmp 2) (.inl rfl) (Res1.tmp rfl) ?_) |(refine PureR.mk ?_)
   all_goals clear hF
   all_goals try generalize kids.length=nk at *
   all_goals try generalize sub.length=ns at *
   all_goals first |(have hv:val0 v=false:=val0_no (by assumption);simp [V.forget,ShapeQ,hv];done) |(have hv:val0 v=false:=val0_eqn (by assumption);simp [V.forget,ShapeQ,hv];done) |(simp_all [V.forget,ShapeQ,KindOk,val0,inR];done) |(simp_all [V.forget,ShapeQ,KindOk,val0,inR];omega) |(rw [V.forget,V.bool.injEq,Bool.eq_iff_iff];simp_all [ShapeQ,KindOk,val0,inR];omega) | trace_state
 by_cases k7:k=7
 · subst k7
   simp [exprV,formV,formF,formOk] at hF
   refine LCalls.pure Try.func63 rfl (by kernel_rfl) (by simp) ?_
   repeat' first |(refine kOps ?_;first |(refine LOps.nil ?_) |(refine kG ?_;first |(refine LOps.gT rfl rfl rfl ?_) |(refine LOps.gF rfl rfl rfl ?_) |(refine LOps.gU rfl rfl ?_) |(refine LOps.gC rfl rfl rfl (fun h=>?_) (fun h=>?_))) |(refine kStore ?_;refine LOps.storeP tT_ok rfl rfl rfl rfl rfl rfl rfl rfl rfl ?_) |(refine LOps.ev tT_ok rfl ?_) |(refine kBox ?_;refine LOps.box rfl rfl rfl rfl ?_) |(refine kAlloc ?_;refine LOps.alloc tT_ok rfl rfl rfl rfl ?_) |(refine kLoad ?_;first |(refine LOps.ans (AnsL.loadP tT_ok rfl rfl rfl rfl) ?_)) |(refine kLen ?_;first |(refine LOps.ans (AnsL.lenM tT_ok rfl rfl rfl) ?_)) |(refine kCallN 103 ?_;first |(refine LOps.ans (AnsL.callP rfl rfl rfl (ok103) (hF _ _ _)) ?_))) |(refine kWL ?_;first |(refine WL.seq ?_) |(refine WL.region (by kernel_rfl) ?_) |(refine WL.ret ?_)) |(refine lthen_n ?_) |(refine LPost.r1 (r := .tmp 2) (.inl rfl) (Res1.tmp rfl) ?_) |(refine PureR.mk ?_)
   all_goals clear hF
   all_goals try generalize kids.length=nk at *
   all_goals try generalize sub.length=ns at *
   all_goals first |(have hv:val0 v=false:=val0_no (by assumption);simp [V.forget,ShapeQ,hv];done) |(have hv:val0 v=false:=val0_eqn (by assumption);simp [V.forget,ShapeQ,hv];done) |(simp_all [V.forget,ShapeQ,KindOk,val0,inR];done) |(simp_all [V.forget,ShapeQ,KindOk,val0,inR];omega) |(rw [V.forget,V.bool.injEq,Bool.eq_iff_iff];simp_all [ShapeQ,KindOk,val0,inR];omega) | trace_state
 by_cases k8:k=8
 · subst k8
   simp [exprV,formV,formF,formOk] at hF
   refine LCalls.pure Try.func63 rfl (by kernel_rfl) (by simp) ?_
   repeat' first |(refine kOps ?_;first |(refine LOps.nil ?_) |(refine kG ?_;first |(refine LOps.gT rfl rfl rfl ?_) |(refine LOps.gF rfl rfl rfl ?_) |(refine LOps.gU rfl rfl ?_) |(refine LOps.gC rfl rfl rfl (fun h=>?_) (fun h=>?_))) |(refine kStore ?_;refine LOps.storeP tT_ok rfl rfl rfl rfl rfl rfl rfl rfl rfl ?_) |(refine LOps.ev tT_ok rfl ?_) |(refine kBox ?_;refine LOps.box rfl rfl rfl rfl ?_) |(refine kAlloc ?_;refine LOps.alloc tT_ok rfl rfl rfl rfl ?_) |(refine kLoad ?_;first |(refine LOps.ans (AnsL.loadP tT_ok rfl rfl rfl rfl) ?_)) |(refine kLen ?_;first |(refine LOps.ans (AnsL.lenM tT_ok rfl rfl rfl) ?_)) |(refine kCallN 103 ?_;first |(refine LOps.ans (AnsL.callP rfl rfl rfl (ok103) (hF _ _ _)) ?_))) |(refine kWL ?_;first |(refine WL.seq ?_) |(refine WL.region (by kernel_rfl) ?_) |(refine WL.ret ?_)) |(refine lthen_n ?_) |(refine LPost.r1 (r := .tmp 2) (.inl rfl) (Res1.tmp rfl) ?_) |(refine PureR.mk ?_)
   all_goals clear hF
   all_goals try generalize kids.length=nk at *
   all_goals try generalize sub.length=ns at *
   all_goals first |(have hv:val0 v=false:=val0_no (by assumption);simp [V.forget,ShapeQ,hv];done) |(have hv:val0 v=false:=val0_eqn (by assumption);simp [V.forget,ShapeQ,hv];done) |(simp_all [V.forget,ShapeQ,KindOk,val0,inR];done) |(simp_all [V.forget,ShapeQ,KindOk,val0,inR];omega) |(rw [V.forget,V.bool.injEq,Bool.eq_iff_iff];simp_all [ShapeQ,KindOk,val0,inR];omega) | trace_state
 by_cases k9:k=9
 · subst k9
   simp [exprV,formV,formF,formOk] at hF
   refine LCalls.pure Try.func63 rfl (by kernel_rfl) (by simp) ?_
   repeat' first |(refine kOps ?_;first |(refine LOps.nil ?_) |(refine kG ?_;first |(refine LOps.gT rfl rfl rfl ?_) |(refine LOps.gF rfl rfl rfl ?_) |(refine LOps.gU rfl rfl ?_) |(refine LOps.gC rfl rfl rfl (fun h=>?_) (fun h=>?_))) |(refine kStore ?_;refine LOps.storeP tT_ok rfl rfl rfl rfl rfl rfl rfl rfl rfl ?_) |(refine LOps.ev tT_ok rfl ?_) |(refine kBox ?_;refine LOps.box rfl rfl rfl rfl ?_) |(refine kAlloc ?_;refine LOps.alloc tT_ok rfl rfl rfl rfl ?_) |(refine kLoad ?_;first |(refine LOps.ans (AnsL.loadP tT_ok rfl rfl rfl rfl) ?_)) |(refine kLen ?_;first |(refine LOps.ans (AnsL.lenM tT_ok rfl rfl rfl) ?_)) |(refine kCallN 103 ?_;first |(refine LOps.ans (AnsL.callP rfl rfl rfl (ok103) (hF _ _ _)) ?_))) |(refine kWL ?_;first |(refine WL.seq ?_) |(refine WL.region (by kernel_rfl) ?_) |(refine WL.ret ?_)) |(refine lthen_n ?_) |(refine LPost.r1 (r := .tmp 2) (.inl rfl) (Res1.tmp rfl) ?_) |(refine PureR.mk ?_)
   all_goals clear hF
   all_goals try generalize kids.length=nk at *
   all_goals try generalize sub.length=ns at *
   all_goals first |(have hv:val0 v=false:=val0_no (by assumption);simp [V.forget,ShapeQ,hv];done) |(have hv:val0 v=false:=val0_eqn (by assumption);simp [V.forget,ShapeQ,hv];done) |(simp_all [V.forget,ShapeQ,KindOk,val0,inR];done) |(simp_all [V.forget,ShapeQ,KindOk,val0,inR];omega) |(rw [V.forget,V.bool.injEq,Bool.eq_iff_iff];simp_all [ShapeQ,KindOk,val0,inR];omega) | trace_state
 · simp [exprV,formV,formF,formOk,k1,k2,k3,k4,k5,k6,k7,k8,k9] at hF
   have hk:¬ (5≤k∧k≤9):=by omega
   refine LCalls.pure Try.func63 rfl (by kernel_rfl) (by simp) ?_
   repeat' first |(refine kOps ?_;first |(refine LOps.nil ?_) |(refine kG ?_;first |(refine LOps.gT rfl rfl rfl ?_) |(refine LOps.gF rfl rfl rfl ?_) |(refine LOps.gU rfl rfl ?_) |(refine LOps.gC rfl rfl rfl (fun h=>?_) (fun h=>?_))) |(refine kStore ?_;refine LOps.storeP tT_ok rfl rfl rfl rfl rfl rfl rfl rfl rfl ?_) |(refine LOps.ev tT_ok rfl ?_) |(refine kBox ?_;refine LOps.box rfl rfl rfl rfl ?_) |(refine kAlloc ?_;refine LOps.alloc tT_ok rfl rfl rfl rfl ?_) |(refine kLoad ?_;first |(refine LOps.ans (AnsL.loadP tT_ok rfl rfl rfl rfl) ?_)) |(refine kLen ?_;first |(refine LOps.ans (AnsL.lenM tT_ok rfl rfl rfl) ?_)) |(refine kCallN 103 ?_;first |(refine LOps.ans (AnsL.callP rfl rfl rfl (ok103) (hF _ _ _)) ?_))) |(refine kWL ?_;first |(refine WL.seq ?_) |(refine WL.region (by kernel_rfl) ?_) |(refine WL.ret ?_)) |(refine lthen_n ?_) |(refine LPost.r1 (r := .tmp 2) (.inl rfl) (Res1.tmp rfl) ?_) |(refine PureR.mk ?_)
   all_goals clear hF
   all_goals try generalize kids.length=nk at *
   all_goals try generalize sub.length=ns at *
   all_goals first |(have hv:val0 v=false:=val0_no (by assumption);simp [V.forget,ShapeQ,hv];done) |(have hv:val0 v=false:=val0_eqn (by assumption);simp [V.forget,ShapeQ,hv];done) |(simp_all [V.forget,ShapeQ,KindOk,val0,inR];done) |(simp_all [V.forget,ShapeQ,KindOk,val0,inR];omega) |(rw [V.forget,V.bool.injEq,Bool.eq_iff_iff];simp_all [ShapeQ,KindOk,val0,inR];omega) | trace_state
end Go.Proofs.Ytolhegocbkckdaa
