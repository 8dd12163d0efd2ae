/-
 The form of plans' trees, the types that meet, and what else types of plans are made of. Own work; no condition.
-/
import Derived.Test.YtolhegocbkckdaaMg16
namespace Go.Proofs.Ytolhegocbkckdaa
open Go
set_option linter.unusedSimpArgs false
set_option linter.unusedVariables false
theorem specNameOk_v (t:List UInt8) (s:S):VCalls Try.prog 141 [.str t] s (fun v s'=>v = .bool (nameOk t)∧s'=s):=by
 refine LCalls.pure Try.func141 rfl (by kernel_rfl) (by simp) ?_
 repeat' first |(refine kOps ?_;first |(refine LOps.nil ?_) |(refine LOps.ev tT_ok rfl ?_) |(refine kCallN 36 ?_;first |(refine LOps.ans (AnsL.callP rfl rfl rfl (ok36) (specl1In_v _ _ _ _)) ?_))) |(refine kWL ?_;first |(refine WL.seq ?_) |(refine WL.region (by kernel_rfl) ?_) |(refine WL.ret ?_)) |(refine lthen_n ?_) |(refine LPost.r1 (r := .tmp 2) (.inl rfl) (Res1.tmp rfl) ?_) |(refine PureR.mk ?_)
 simp [nameOk,inR]
theorem implNameOk_v (t:List UInt8) (s:S):VCalls Try.prog 130 [.str t] s (fun v s'=>v = .bool (nameOk t)∧s'=s):=by
 refine LCalls.pure Try.func130 rfl (by kernel_rfl) (by simp) ?_
 repeat' first |(refine kOps ?_;first |(refine LOps.nil ?_) |(refine kG ?_;first |(refine LOps.gT rfl rfl rfl ?_) |(refine LOps.gF rfl rfl rfl ?_) |(refine LOps.gC rfl rfl rfl (fun h=>?_) (fun h=>?_))) |(refine LOps.ev tT_ok rfl ?_)) |(refine kWL ?_;first |(refine WL.seq ?_) |(refine WL.region (by kernel_rfl) ?_) |(refine WL.ret ?_)) |(refine lthen_n ?_) |(refine LPost.r1 (r := .tmp 2) (.inl rfl) (Res1.tmp rfl) ?_) |(refine PureR.mk ?_)
 all_goals (simp_all [nameOk] <;> (intros;omega))
theorem specl7Lit_v (v:Val) (s:S):VCalls Try.prog 140 [v.toV] s (fun r s'=>r = .bool (litOk v)∧s'=s):=by
 refine LCalls.pure Try.func140 rfl (by kernel_rfl) (by simp) ?_
 repeat' first |(refine kOps ?_;first |(refine LOps.nil ?_) |(refine kG ?_;first |(refine LOps.gT rfl rfl rfl ?_) |(refine LOps.gF rfl rfl rfl ?_) |(refine LOps.gU rfl rfl ?_) |(refine LOps.gC rfl rfl rfl (fun h=>?_) (fun h=>?_))) |(refine LOps.ev tT_ok rfl ?_) |(refine kBox ?_;refine LOps.box rfl rfl rfl rfl ?_) |(refine kLoad ?_;first |(refine LOps.ans (AnsL.loadP tT_ok rfl rfl rfl rfl) ?_)) |(refine kCallN 152 ?_;first |(refine LOps.ans (AnsL.callP rfl rfl rfl (ok152) (specValueOk_v _ _)) ?_))) |(refine kWL ?_;first |(refine WL.seq ?_) |(refine WL.region (by kernel_rfl) ?_) |(refine WL.ret ?_)) |(refine lthen_n ?_) |(refine LPost.r1 (r := .tmp 2) (.inl rfl) (Res1.tmp rfl) ?_) |(refine PureR.mk ?_)
 all_goals (simp_all [litOk] <;> (intros;omega))
theorem implisLit_v (v:Val) (s:S):VCalls Try.prog 129 [v.toV] s (fun r s'=>r = .bool (litOk v)∧s'=s):=by
 refine LCalls.pure Try.func129 rfl (by kernel_rfl) (by simp) ?_
 repeat' first |(refine kOps ?_;first |(refine LOps.nil ?_) |(refine kG ?_;first |(refine LOps.gT rfl rfl rfl ?_) |(refine LOps.gF rfl rfl rfl ?_) |(refine LOps.gU rfl rfl ?_) |(refine LOps.gC rfl rfl rfl (fun h=>?_) (fun h=>?_))) |(refine LOps.ev tT_ok rfl ?_) |(refine kBox ?_;refine LOps.box rfl rfl rfl rfl ?_) |(refine kLoad ?_;first |(refine LOps.ans (AnsL.loadP tT_ok rfl rfl rfl rfl) ?_)) |(refine kCallN 148 ?_;first |(refine LOps.ans (AnsL.callP rfl rfl rfl (ok148) (implValueOk_v _ _)) ?_))) |(refine kWL ?_;first |(refine WL.seq ?_) |(refine WL.region (by kernel_rfl) ?_) |(refine WL.ret ?_)) |(refine lthen_n ?_) |(refine LPost.r1 (r := .tmp 2) (.inl rfl) (Res1.tmp rfl) ?_) |(refine PureR.mk ?_)
 all_goals (simp_all [litOk] <;> (intros;omega))
theorem specl7Maybe0_v (s:S):VCalls Try.prog 142 [.str []] s (fun v s'=>v = .bool true∧s'=s):=by
 refine LCalls.pure Try.func142 rfl (by kernel_rfl) (by simp) ?_
 repeat' first |(refine kOps ?_;first |(refine LOps.nil ?_) |(refine kG ?_;first |(refine LOps.gF rfl rfl rfl ?_)) |(refine LOps.ev tT_ok rfl ?_)) |(refine kWL ?_;first |(refine WL.seq ?_) |(refine WL.region (by kernel_rfl) ?_) |(refine WL.ret ?_)) |(refine lthen_n ?_) |(refine LPost.r1 (r := .tmp 2) (.inl rfl) (Res1.tmp rfl) ?_) |(refine PureR.mk ?_)
 rfl
theorem specl20Meet_v (l:List Int) (hl:l.length≤16777216) (s:S):VCalls Try.prog 71 [ints l] s (fun v s'=>v = .bool (meetL 0 l).isSome∧s'=s):=by
 refine LCalls.pure Try.func71 rfl (by kernel_rfl) (by simp) ?_
 repeat' first |(refine kOps ?_;first |(refine LOps.nil ?_) |(refine LOps.ev tT_ok rfl ?_)) |(refine kWL ?_;first |(refine WL.seq ?_) |(refine WL.region (by kernel_rfl) ?_) |(refine WL.block ?_)) |(refine lthen_n ?_)
 refine WL.loopD (fun x:Nat × Int=>l.length - x.1) (fun x=>[(0,ints l),(3,.int .i64 x.2),(4,.int .i64 (x.1:Int))]) (fun i=>[])
   (fun x=>x.1≤l.length∧meetL 0 l=meetL x.2 (l.drop x.1)) 0 (0,0) ⟨by simp,by simp⟩ (fun _=>rfl) ⟨rfl,rfl,rfl,trivial⟩ rfl (fun i hi=>?_) (fun i hi=>?_)
 · simp [UnderK,UnderX,V.under,V.underL,ints]
 obtain ⟨i,t⟩:=i
 obtain ⟨hi,hc⟩:=hi
 try dsimp only at hi hc ⊢
 rcases Nat.lt_or_ge i l.length with hlt | hge
 · rw [List.drop_eq_getElem_cons hlt,meetL] at hc
   have hga:(l.map iV)[i]?=some (iV l[i]):=by simp [hlt]
   generalize l[i]=y at hga hc
   have hM:=fun s=>specMeet_t t y s
   generalize meetT t y=m at hc hM
   obtain ⟨u,b⟩:=m
   cases b
   · dsimp only at hc
     rw [hc]
     repeat' first |(refine kOps ?_;first |(refine LOps.nil ?_) |(refine LOps.ev tT_ok rfl ?_) |(refine kLen ?_;first |(refine LOps.ans (AnsL.lenM tT_ok rfl rfl rfl) ?_)) |(refine kIdx ?_;first |(refine LOps.ans (AnsL.idx tT_ok rfl rfl rfl rfl rfl hga rfl rfl) ?_)) |(refine kCallN 116 ?_;first |(refine LOps.ans (AnsL.callP rfl rfl rfl (ok116) (hM _)) ?_))) |(refine kWL ?_;first |(refine WL.seq ?_) |(refine WL.region (by kernel_rfl) ?_) |(refine WL.block ?_) |(refine WL.skip ?_) |(refine WL.ret ?_) |(refine kCond ?_;first |(refine WL.condT rfl ?_) |(refine WL.condT' rfl ?_ ?_;(focus (first |(simp <;> omega)))))) |(refine lthen_n ?_) |(refine lthen_r ?_) |(refine lblock_r ?_) |(refine lbackD_r ?_) |(refine LPost.r1 (r := .tmp 2) (.inl rfl) (Res1.tmp rfl) ?_) |(refine PureR.mk ?_)
     rfl
   · dsimp only at hc
     repeat' first |(refine kOps ?_;first |(refine LOps.nil ?_) |(refine LOps.ev tT_ok rfl ?_) |(refine kLen ?_;first |(refine LOps.ans (AnsL.lenM tT_ok rfl rfl rfl) ?_)) |(refine kBin ?_;first |(refine LOps.ans (AnsL.add rfl rfl ?_) ?_;(focus (constructor <;> omega)))) |(refine kIdx ?_;first |(refine LOps.ans (AnsL.idx tT_ok rfl rfl rfl rfl rfl hga rfl rfl) ?_)) |(refine kCallN 116 ?_;first |(refine LOps.ans (AnsL.callP rfl rfl rfl (ok116) (hM _)) ?_))) |(refine kWL ?_;first |(refine WL.seq ?_) |(refine WL.region (by kernel_rfl) ?_) |(refine WL.block ?_) |(refine WL.skip ?_) |(refine kCond ?_;first |(refine WL.condF rfl ?_) |(refine WL.condT' rfl ?_ ?_;(focus (first |(simp <;> omega)))))) |(refine lthen_n ?_) |(refine lblock_n ?_)
     refine lbackD.of (i+1,u) ⟨by omega,hc⟩ (by show l.length - (i+1)<l.length - i;omega) ?_ rfl
     exact ⟨rfl,rfl,rfl,trivial⟩
 · rw [List.drop_of_length_le hge,meetL] at hc
   rw [hc]
   repeat' first |(refine kOps ?_;first |(refine LOps.nil ?_) |(refine LOps.ev tT_ok rfl ?_) |(refine kLen ?_;first |(refine LOps.ans (AnsL.lenM tT_ok rfl rfl rfl) ?_))) |(refine kWL ?_;first |(refine WL.seq ?_) |(refine WL.region (by kernel_rfl) ?_) |(refine WL.exit ?_) |(refine WL.ret ?_) |(refine kCond ?_;first |(refine WL.condF' rfl ?_ ?_;(focus (first |(simp <;> omega)))))) |(refine lthen_n ?_) |(refine lthen_e ?_) |(refine lblock_e ?_) |(refine lbackD_e ?_) |(refine LPost.r1 (r := .tmp 2) (.inl rfl) (Res1.tmp rfl) ?_) |(refine PureR.mk ?_)
   rfl
@[simp] theorem optV_dat (o:Option Int):(optV o).dat=true:=by simp [optV]
theorem implmeetAll_v (l:List Int) (hl:l.length≤16777216) (s:S):VCalls Try.prog 110 [ints l] s (fun v s'=>v=optV (meetL 0 l)∧s'=s):=by
 refine LCalls.pure Try.func110 rfl (by kernel_rfl) (by simp) ?_
 repeat' first |(refine kOps ?_;first |(refine LOps.nil ?_) |(refine LOps.ev tT_ok rfl ?_) |(refine kLen ?_;first |(refine LOps.ans (AnsL.lenM tT_ok rfl rfl rfl) ?_))) |(refine kWL ?_;first |(refine WL.seq ?_) |(refine WL.region (by kernel_rfl) ?_) |(refine WL.block ?_)) |(refine lthen_n ?_)
 refine WL.loopD (fun x:Nat × Int=>l.length - x.1) (fun x=>[(4,.int .i64 x.2),(9,ints l),(10,.int .i64 l.length),(11,.int .i64 (x.1:Int))]) (fun i=>[])
   (fun x=>x.1≤l.length∧meetL 0 l=meetL x.2 (l.drop x.1)) 0 (0,0) ⟨by simp,by simp⟩ (fun _=>rfl) ⟨rfl,rfl,rfl,rfl,trivial⟩ rfl (fun i hi=>?_) (fun i hi=>?_)
 · simp [UnderK,UnderX,V.under,V.underL,ints]
 obtain ⟨i,t⟩:=i
 obtain ⟨hi,hc⟩:=hi
 try dsimp only at hi hc ⊢
 rcases Nat.lt_or_ge i l.length with hlt | hge
 · rw [List.drop_eq_getElem_cons hlt,meetL] at hc
   have hga:(l.map iV)[i]?=some (iV l[i]):=by simp [hlt]
   generalize l[i]=y at hga hc
   have hM:=fun s=>implMeet_t t y s
   generalize meetT t y=m at hc hM
   obtain ⟨u,b⟩:=m
   cases b
   · dsimp only at hc
     rw [hc]
     repeat' first |(refine kOps ?_;first |(refine LOps.nil ?_) |(refine LOps.ev tT_ok rfl ?_) |(refine kIdx ?_;first |(refine LOps.ans (AnsL.idx tT_ok rfl rfl rfl rfl rfl hga rfl rfl) ?_)) |(refine kCallN 139 ?_;first |(refine LOps.ans (AnsL.callP rfl rfl rfl (ok139) (hM _)) ?_))) |(refine kWL ?_;first |(refine WL.seq ?_) |(refine WL.region (by kernel_rfl) ?_) |(refine WL.block ?_) |(refine WL.skip ?_) |(refine WL.ret ?_) |(refine kCond ?_;first |(refine WL.condT rfl ?_) |(refine WL.condT' rfl ?_ ?_;(focus (first |(simp <;> omega)))))) |(refine lthen_n ?_) |(refine lthen_r ?_) |(refine lblock_r ?_) |(refine lbackD_r ?_) |(refine LPost.r2 (r := .tmp 2) (r' := .tmp 3) (.inl rfl) (Res1.tmp rfl) (Res1.tmp rfl) ?_) |(refine PureR.mk ?_)
     rfl
   · dsimp only at hc
     repeat' first |(refine kOps ?_;first |(refine LOps.nil ?_) |(refine LOps.ev tT_ok rfl ?_) |(refine kBin ?_;first |(refine LOps.ans (AnsL.add rfl rfl ?_) ?_;(focus (constructor <;> omega)))) |(refine kIdx ?_;first |(refine LOps.ans (AnsL.idx tT_ok rfl rfl rfl rfl rfl hga rfl rfl) ?_)) |(refine kCallN 139 ?_;first |(refine LOps.ans (AnsL.callP rfl rfl rfl (ok139) (hM _)) ?_))) |(refine kWL ?_;first |(refine WL.seq ?_) |(refine WL.region (by kernel_rfl) ?_) |(refine WL.block ?_) |(refine WL.skip ?_) |(refine kCond ?_;first |(refine WL.condF rfl ?_) |(refine WL.condT' rfl ?_ ?_;(focus (first |(simp <;> omega)))))) |(refine lthen_n ?_) |(refine lblock_n ?_)
     refine lbackD.of (i+1,u) ⟨by omega,hc⟩ (by show l.length - (i+1)<l.length - i;omega) ?_ rfl
     exact ⟨rfl,rfl,rfl,rfl,trivial⟩
 · rw [List.drop_of_length_le hge,meetL] at hc
   rw [hc]
   repeat' first |(refine kOps ?_;first |(refine LOps.nil ?_) |(refine LOps.ev tT_ok rfl ?_)) |(refine kWL ?_;first |(refine WL.seq ?_) |(refine WL.region (by kernel_rfl) ?_) |(refine WL.exit ?_) |(refine WL.ret ?_) |(refine kCond ?_;first |(refine WL.condF' rfl ?_ ?_;(focus (first |(simp <;> omega)))))) |(refine lthen_n ?_) |(refine lthen_e ?_) |(refine lblock_e ?_) |(refine lbackD_e ?_) |(refine LPost.r2 (r := .tmp 2) (r' := .tmp 3) (.inl rfl) (Res1.tmp rfl) (Res1.tmp rfl) ?_) |(refine PureR.mk ?_)
   rfl
def envV (env:List (List Int)):V := .sl 0 (env.map ints)
theorem specl20Env_v (row:List Int) (env:List (List Int)) (h:env.length≤16777216) (s:S):VCalls Try.prog 120 [ints row,envV env] s (fun v s'=>v=envV (row::env)∧s'=s):=by
 refine LCalls.pure Try.func120 rfl (by kernel_rfl) (by simp [envV]) ?_
 repeat' first |(refine kOps ?_;first |(refine LOps.nil ?_) |(refine LOps.ev tT_ok rfl ?_) |(refine kBsl ?_;first |(refine LOps.bsl tT_ok rfl rfl rfl rfl rfl rfl rfl rfl rfl rfl rfl ?_)) |(refine kApp ?_;first |(refine LOps.app tT_ok rfl rfl rfl rfl rfl rfl rfl rfl rfl rfl rfl ?_ ?_ (AppB.of ?_ rfl) ?_;(focus (first | rfl));(focus (first | exact Elems.of rfl | exact Elems.map fun _=>rfl | exact PE.els _ (fun _=>rfl) _));(focus (first | omega |(simp;omega)))))) |(refine kWL ?_;first |(refine WL.seq ?_) |(refine WL.region (by kernel_rfl) ?_) |(refine WL.ret ?_)) |(refine lthen_n ?_) |(refine LPost.r1 (r := .tmp 4) (.inl rfl) (Res1.tmp rfl) ?_) |(refine PureR.mk ?_)
 simp [envV,V.forget]
theorem implinFront_v (row:List Int) (env:List (List Int)) (h:env.length≤16777216) (s:S):VCalls Try.prog 107 [ints row,envV env] s (fun v s'=>v=envV (row::env)∧s'=s):=by
 refine LCalls.pure Try.func107 rfl (by kernel_rfl) (by simp [envV]) ?_
 repeat' first |(refine kOps ?_;first |(refine LOps.nil ?_) |(refine LOps.ev tT_ok rfl ?_) |(refine kBsl ?_;first |(refine LOps.bsl tT_ok rfl rfl rfl rfl rfl rfl rfl rfl rfl rfl rfl ?_)) |(refine kApp ?_;first |(refine LOps.app tT_ok rfl rfl rfl rfl rfl rfl rfl rfl rfl rfl rfl ?_ ?_ (AppB.of ?_ rfl) ?_;(focus (first | rfl));(focus (first | exact Elems.of rfl | exact Elems.map fun _=>rfl | exact PE.els _ (fun _=>rfl) _));(focus (first | omega |(simp;omega)))))) |(refine kWL ?_;first |(refine WL.seq ?_) |(refine WL.region (by kernel_rfl) ?_) |(refine WL.ret ?_)) |(refine lthen_n ?_) |(refine LPost.r1 (r := .tmp 4) (.inl rfl) (Res1.tmp rfl) ?_) |(refine PureR.mk ?_)
 simp [envV,V.forget]
def exprV (k op:Int) (nt:Bool) (v:Val) (col:List UInt8) (a b:V):V := .agg [.int .i64 k,.int .i64 op,.bool nt,.int .i64 v.kind,.int .i64 v.num,.str v.text,.str [],.str col,a,b]
def ShapeQ (k op:Int) (nt:Bool) (v:Val) (nk ns:Nat):Prop:=(k=1∨val0 v=true)∧(k=3∨k=4∨op=0)∧(nt=false∨(5≤k∧k≤8))∧KindOk k op v nk ns
instance (k op:Int) (nt:Bool) (v:Val) (nk ns:Nat):Decidable (ShapeQ k op nt v nk ns):=by unfold ShapeQ;infer_instance
theorem shape_q (k op:Int) (nt:Bool) (v:Val) (up pos:Int) (nk ns:Nat):ShapeP k op nt v up pos nk ns↔(k=2∨(up=0∧pos=0))∧ShapeQ k op nt v nk ns:=Iff.rfl
theorem val0_no {v:Val} (h:(!(fun r=>decide (v.kind=0)&&r) ((fun r=>decide (v.num=0)&&r) ((fun r=>decide (v.text=[])&&r) true)))=true):val0 v=false:=by
 simp only [val0]
 revert h
 cases decide (v.kind=0) <;> cases decide (v.num=0) <;> cases decide (v.text=[]) <;> simp
theorem val0_eqn {v:Val} (h:((fun r=>decide (v.kind=0)&&r) ((fun r=>decide (v.num=0)&&r) ((fun r=>decide (v.text=[])&&r) true)))=false):val0 v=false:=by
 simp only [val0]
 revert h
 cases decide (v.kind=0) <;> cases decide (v.num=0) <;> cases decide (v.text=[]) <;> simp
theorem val0_iff (v:Val):val0 v=true↔v.kind=0∧v.num=0∧v.text=[]:=by simp [val0]
theorem specl7Shape_v (k op:Int) (nt:Bool) (v:Val) (xs ys:List V) (h1:xs.length≤16777216) (h2:ys.length≤16777216) (s:S):VCalls Try.prog 112 [exprV k op nt v (if k=2 then [97] else []) (.sl 0 xs) (.sl 0 ys)] s (fun r s'=>r = .bool (decide (ShapeQ k op nt v xs.length ys.length))∧s'=s):=by
 have hL:=fun t=>specl7Lit_v v t
 have hN:=fun t=>specNameOk_v [97] t
 rw [show nameOk [97]=true from rfl] at hN
 by_cases k1:k=1
 · subst k1
   refine LCalls.pure Try.func112 rfl (by kernel_rfl) (by simp) ?_
   repeat' first |(refine kOps ?_;first |(refine LOps.nil ?_) |(refine kG ?_;first |(refine LOps.gT rfl rfl rfl ?_) |(refine LOps.gF rfl rfl rfl ?_) |(refine LOps.gU rfl rfl ?_) |(refine LOps.gC rfl rfl rfl (fun h=>?_) (fun h=>?_))) |(refine LOps.ev tT_ok rfl ?_) |(refine kBox ?_;refine LOps.box rfl rfl rfl rfl ?_) |(refine kLoad ?_;first |(refine LOps.ans (AnsL.loadP tT_ok rfl rfl rfl rfl) ?_)) |(refine kLen ?_;first |(refine LOps.ans (AnsL.lenG tT_ok rfl rfl rfl) ?_)) |(refine kBin ?_;first |(refine LOps.ans (AnsL.add rfl rfl ?_) ?_;(focus (constructor <;> omega)))) |(refine kCallN 140 ?_;first |(refine LOps.ans (AnsL.callP rfl rfl rfl (ok140) (hL _)) ?_)) |(refine kCallN 36 ?_;first |(refine LOps.ans (AnsL.callP rfl rfl rfl (ok36) (specl1In_v _ _ _ _)) ?_))) |(refine kWL ?_;first |(refine WL.seq ?_) |(refine WL.region (by kernel_rfl) ?_) |(refine WL.block ?_) |(refine WL.skip ?_) |(refine WL.ret ?_) |(refine kCond ?_;first |(refine WL.condT rfl ?_) |(refine WL.condF rfl ?_))) |(refine lthen_n ?_) |(refine lthen_r ?_) |(refine lblock_r ?_) |(refine LPost.r1 (r := .tmp 2) (.inl rfl) (Res1.tmp rfl) ?_) |(refine PureR.mk ?_)
   all_goals generalize xs.length=nk at *
   all_goals generalize ys.length=ns at *
   all_goals first |(have hv:val0 v=false:=val0_no (by assumption);simp [V.forget,ShapeQ,hv];done) |(have hv:val0 v=false:=val0_eqn (by assumption);simp [V.forget,ShapeQ,hv];done) |(simp_all [V.forget,ShapeQ,KindOk,val0,inR];done) |(simp_all [V.forget,ShapeQ,KindOk,val0,inR];omega) |(rw [V.forget,V.bool.injEq,Bool.eq_iff_iff];simp_all [ShapeQ,KindOk,val0,inR];omega) | trace_state
 by_cases k2:k=2
 · subst k2
   refine LCalls.pure Try.func112 rfl (by kernel_rfl) (by simp) ?_
   repeat' first |(refine kOps ?_;first |(refine LOps.nil ?_) |(refine kG ?_;first |(refine LOps.gT rfl rfl rfl ?_) |(refine LOps.gF rfl rfl rfl ?_) |(refine LOps.gU rfl rfl ?_) |(refine LOps.gC rfl rfl rfl (fun h=>?_) (fun h=>?_))) |(refine LOps.ev tT_ok rfl ?_) |(refine kBox ?_;refine LOps.box rfl rfl rfl rfl ?_) |(refine kLoad ?_;first |(refine LOps.ans (AnsL.loadP tT_ok rfl rfl rfl rfl) ?_)) |(refine kLen ?_;first |(refine LOps.ans (AnsL.lenG tT_ok rfl rfl rfl) ?_)) |(refine kBin ?_;first |(refine LOps.ans (AnsL.add rfl rfl ?_) ?_;(focus (constructor <;> omega)))) |(refine kCallN 141 ?_;first |(refine LOps.ans (AnsL.callP rfl rfl rfl (ok141) (hN _)) ?_)) |(refine kCallN 142 ?_;first |(refine LOps.ans (AnsL.callP rfl rfl rfl (ok142) (specl7Maybe0_v _)) ?_)) |(refine kCallN 36 ?_;first |(refine LOps.ans (AnsL.callP rfl rfl rfl (ok36) (specl1In_v _ _ _ _)) ?_))) |(refine kWL ?_;first |(refine WL.seq ?_) |(refine WL.region (by kernel_rfl) ?_) |(refine WL.block ?_) |(refine WL.skip ?_) |(refine WL.ret ?_) |(refine kCond ?_;first |(refine WL.condT rfl ?_) |(refine WL.condF rfl ?_) |(refine WL.cond rfl (fun h=>?_) (fun h=>?_)))) |(refine lthen_n ?_) |(refine lthen_r ?_) |(refine lblock_r ?_) |(refine LPost.r1 (r := .tmp 2) (.inl rfl) (Res1.tmp rfl) ?_) |(refine PureR.mk ?_)
   all_goals generalize xs.length=nk at *
   all_goals generalize ys.length=ns at *
   all_goals first |(have hv:val0 v=false:=val0_no (by assumption);simp [V.forget,ShapeQ,hv];done) |(have hv:val0 v=false:=val0_eqn (by assumption);simp [V.forget,ShapeQ,hv];done) |(simp_all [V.forget,ShapeQ,KindOk,val0,inR];done) |(simp_all [V.forget,ShapeQ,KindOk,val0,inR];omega) |(rw [V.forget,V.bool.injEq,Bool.eq_iff_iff];simp_all [ShapeQ,KindOk,val0,inR];omega) | trace_state
 by_cases k3:k=3
 · subst k3
   refine LCalls.pure Try.func112 rfl (by kernel_rfl) (by simp) ?_
   repeat' first |(refine kOps ?_;first |(refine LOps.nil ?_) |(refine kG ?_;first |(refine LOps.gT rfl rfl rfl ?_) |(refine LOps.gF rfl rfl rfl ?_) |(refine LOps.gC rfl rfl rfl (fun h=>?_) (fun h=>?_))) |(refine LOps.ev tT_ok rfl ?_) |(refine kBox ?_;refine LOps.box rfl rfl rfl rfl ?_) |(refine kLoad ?_;first |(refine LOps.ans (AnsL.loadP tT_ok rfl rfl rfl rfl) ?_)) |(refine kLen ?_;first |(refine LOps.ans (AnsL.lenG tT_ok rfl rfl rfl) ?_)) |(refine kCallN 36 ?_;first |(refine LOps.ans (AnsL.callP rfl rfl rfl (ok36) (specl1In_v _ _ _ _)) ?_))) |(refine kWL ?_;first |(refine WL.seq ?_) |(refine WL.region (by kernel_rfl) ?_) |(refine WL.block ?_) |(refine WL.skip ?_) |(refine WL.ret ?_) |(refine kCond ?_;first |(refine WL.condT rfl ?_) |(refine WL.condF rfl ?_) |(refine WL.cond rfl (fun h=>?_) (fun h=>?_)))) |(refine lthen_n ?_) |(refine lthen_r ?_) |(refine lblock_r ?_) |(refine LPost.r1 (r := .tmp 2) (.inl rfl) (Res1.tmp rfl) ?_) |(refine PureR.mk ?_)
   all_goals generalize xs.length=nk at *
   all_goals generalize ys.length=ns at *
   all_goals first |(have hv:val0 v=false:=val0_no (by assumption);simp [V.forget,ShapeQ,hv];done) |(have hv:val0 v=false:=val0_eqn (by assumption);simp [V.forget,ShapeQ,hv];done) |(simp_all [V.forget,ShapeQ,KindOk,val0,inR];done) |(simp_all [V.forget,ShapeQ,KindOk,val0,inR];omega) |(rw [V.forget,V.bool.injEq,Bool.eq_iff_iff];simp_all [ShapeQ,KindOk,val0,inR];omega) | trace_state
 by_cases k4:k=4
 · subst k4
   refine LCalls.pure Try.func112 rfl (by kernel_rfl) (by simp) ?_
   repeat' first |(refine kOps ?_;first |(refine LOps.nil ?_) |(refine kG ?_;first |(refine LOps.gT rfl rfl rfl ?_) |(refine LOps.gF rfl rfl rfl ?_) |(refine LOps.gC rfl rfl rfl (fun h=>?_) (fun h=>?_))) |(refine LOps.ev tT_ok rfl ?_) |(refine kBox ?_;refine LOps.box rfl rfl rfl rfl ?_) |(refine kLoad ?_;first |(refine LOps.ans (AnsL.loadP tT_ok rfl rfl rfl rfl) ?_)) |(refine kLen ?_;first |(refine LOps.ans (AnsL.lenG tT_ok rfl rfl rfl) ?_)) |(refine kCallN 36 ?_;first |(refine LOps.ans (AnsL.callP rfl rfl rfl (ok36) (specl1In_v _ _ _ _)) ?_))) |(refine kWL ?_;first |(refine WL.seq ?_) |(refine WL.region (by kernel_rfl) ?_) |(refine WL.block ?_) |(refine WL.skip ?_) |(refine WL.ret ?_) |(refine kCond ?_;first |(refine WL.condT rfl ?_) |(refine WL.condF rfl ?_) |(refine WL.cond rfl (fun h=>?_) (fun h=>?_)))) |(refine lthen_n ?_) |(refine lthen_r ?_) |(refine lblock_r ?_) |(refine LPost.r1 (r := .tmp 2) (.inl rfl) (Res1.tmp rfl) ?_) |(refine PureR.mk ?_)
   all_goals generalize xs.length=nk at *
   all_goals generalize ys.length=ns at *
   all_goals first |(have hv:val0 v=false:=val0_no (by assumption);simp [V.forget,ShapeQ,hv];done) |(have hv:val0 v=false:=val0_eqn (by assumption);simp [V.forget,ShapeQ,hv];done) |(simp_all [V.forget,ShapeQ,KindOk,val0,inR];done) |(simp_all [V.forget,ShapeQ,KindOk,val0,inR];omega) |(rw [V.forget,V.bool.injEq,Bool.eq_iff_iff];simp_all [ShapeQ,KindOk,val0,inR];omega) | trace_state
 by_cases k5:k=5
 · subst k5
   refine LCalls.pure Try.func112 rfl (by kernel_rfl) (by simp) ?_
   repeat' first |(refine kOps ?_;first |(refine LOps.nil ?_) |(refine kG ?_;first |(refine LOps.gT rfl rfl rfl ?_) |(refine LOps.gF rfl rfl rfl ?_) |(refine LOps.gU rfl rfl ?_) |(refine LOps.gC rfl rfl rfl (fun h=>?_) (fun h=>?_))) |(refine LOps.ev tT_ok rfl ?_) |(refine kBox ?_;refine LOps.box rfl rfl rfl rfl ?_) |(refine kLoad ?_;first |(refine LOps.ans (AnsL.loadP tT_ok rfl rfl rfl rfl) ?_)) |(refine kLen ?_;first |(refine LOps.ans (AnsL.lenG tT_ok rfl rfl rfl) ?_)) |(refine kCallN 36 ?_;first |(refine LOps.ans (AnsL.callP rfl rfl rfl (ok36) (specl1In_v _ _ _ _)) ?_))) |(refine kWL ?_;first |(refine WL.seq ?_) |(refine WL.region (by kernel_rfl) ?_) |(refine WL.block ?_) |(refine WL.skip ?_) |(refine WL.ret ?_) |(refine kCond ?_;first |(refine WL.condT rfl ?_) |(refine WL.condF rfl ?_) |(refine WL.cond rfl (fun h=>?_) (fun h=>?_)))) |(refine lthen_n ?_) |(refine lthen_r ?_) |(refine lblock_r ?_) |(refine LPost.r1 (r := .tmp 2) (.inl rfl) (Res1.tmp rfl) ?_) |(refine PureR.mk ?_)
   all_goals generalize xs.length=nk at *
   all_goals generalize ys.length=ns at *
   all_goals first |(have hv:val0 v=false:=val0_no (by assumption);simp [V.forget,ShapeQ,hv];done) |(have hv:val0 v=false:=val0_eqn (by assumption);simp [V.forget,ShapeQ,hv];done) |(simp_all [V.forget,ShapeQ,KindOk,val0,inR];done) |(simp_all [V.forget,ShapeQ,KindOk,val0,inR];omega) |(rw [V.forget,V.bool.injEq,Bool.eq_iff_iff];simp_all [ShapeQ,KindOk,val0,inR];omega) | trace_state
 by_cases k6:k=6
 · subst k6
   refine LCalls.pure Try.func112 rfl (by kernel_rfl) (by simp) ?_
   repeat' first |(refine kOps ?_;first |(refine LOps.nil ?_) |(refine kG ?_;first |(refine LOps.gT rfl rfl rfl ?_) |(refine LOps.gF rfl rfl rfl ?_) |(refine LOps.gU rfl rfl ?_) |(refine LOps.gC rfl rfl rfl (fun h=>?_) (fun h=>?_))) |(refine LOps.ev tT_ok rfl ?_) |(refine kBox ?_;refine LOps.box rfl rfl rfl rfl ?_) |(refine kLoad ?_;first |(refine LOps.ans (AnsL.loadP tT_ok rfl rfl rfl rfl) ?_)) |(refine kLen ?_;first |(refine LOps.ans (AnsL.lenG tT_ok rfl rfl rfl) ?_)) |(refine kCallN 36 ?_;first |(refine LOps.ans (AnsL.callP rfl rfl rfl (ok36) (specl1In_v _ _ _ _)) ?_))) |(refine kWL ?_;first |(refine WL.seq ?_) |(refine WL.region (by kernel_rfl) ?_) |(refine WL.block ?_) |(refine WL.skip ?_) |(refine WL.ret ?_) |(refine kCond ?_;first |(refine WL.condT rfl ?_) |(refine WL.condF rfl ?_) |(refine WL.cond rfl (fun h=>?_) (fun h=>?_)))) |(refine lthen_n ?_) |(refine lthen_r ?_) |(refine lblock_r ?_) |(refine LPost.r1 (r := .tmp 2) (.inl rfl) (Res1.tmp rfl) ?_) |(refine PureR.mk ?_)
   all_goals generalize xs.length=nk at *
   all_goals generalize ys.length=ns at *
   all_goals first |(have hv:val0 v=false:=val0_no (by assumption);simp [V.forget,ShapeQ,hv];done) |(have hv:val0 v=false:=val0_eqn (by assumption);simp [V.forget,ShapeQ,hv];done) |(simp_all [V.forget,ShapeQ,KindOk,val0,inR];done) |(simp_all [V.forget,ShapeQ,KindOk,val0,inR];omega) |(rw [V.forget,V.bool.injEq,Bool.eq_iff_iff];simp_all [ShapeQ,KindOk,val0,inR];omega) | trace_state
 by_cases k7:k=7
 · subst k7
   refine LCalls.pure Try.func112 rfl (by kernel_rfl) (by simp) ?_
   repeat' first |(refine kOps ?_;first |(refine LOps.nil ?_) |(refine kG ?_;first |(refine LOps.gT rfl rfl rfl ?_) |(refine LOps.gF rfl rfl rfl ?_) |(refine LOps.gU rfl rfl ?_) |(refine LOps.gC rfl rfl rfl (fun h=>?_) (fun h=>?_))) |(refine LOps.ev tT_ok rfl ?_) |(refine kBox ?_;refine LOps.box rfl rfl rfl rfl ?_) |(refine kLoad ?_;first |(refine LOps.ans (AnsL.loadP tT_ok rfl rfl rfl rfl) ?_)) |(refine kLen ?_;first |(refine LOps.ans (AnsL.lenG tT_ok rfl rfl rfl) ?_)) |(refine kCallN 36 ?_;first |(refine LOps.ans (AnsL.callP rfl rfl rfl (ok36) (specl1In_v _ _ _ _)) ?_))) |(refine kWL ?_;first |(refine WL.seq ?_) |(refine WL.region (by kernel_rfl) ?_) |(refine WL.block ?_) |(refine WL.skip ?_) |(refine WL.ret ?_) |(refine kCond ?_;first |(refine WL.condT rfl ?_) |(refine WL.condF rfl ?_) |(refine WL.cond rfl (fun h=>?_) (fun h=>?_)))) |(refine lthen_n ?_) |(refine lthen_r ?_) |(refine lblock_r ?_) |(refine LPost.r1 (r := .tmp 2) (.inl rfl) (Res1.tmp rfl) ?_) |(refine PureR.mk ?_)
   all_goals generalize xs.length=nk at *
   all_goals generalize ys.length=ns at *
   all_goals first |(have hv:val0 v=false:=val0_no (by assumption);simp [V.forget,ShapeQ,hv];done) |(have hv:val0 v=false:=val0_eqn (by assumption);simp [V.forget,ShapeQ,hv];done) |(simp_all [V.forget,ShapeQ,KindOk,val0,inR];done) |(simp_all [V.forget,ShapeQ,KindOk,val0,inR];omega) |(rw [V.forget,V.bool.injEq,Bool.eq_iff_iff];simp_all [ShapeQ,KindOk,val0,inR];omega) | trace_state
 by_cases k8:k=8
 · subst k8
   refine LCalls.pure Try.func112 rfl (by kernel_rfl) (by simp) ?_
   repeat' first |(refine kOps ?_;first |(refine LOps.nil ?_) |(refine kG ?_;first |(refine LOps.gT rfl rfl rfl ?_) |(refine LOps.gF rfl rfl rfl ?_) |(refine LOps.gU rfl rfl ?_) |(refine LOps.gC rfl rfl rfl (fun h=>?_) (fun h=>?_))) |(refine LOps.ev tT_ok rfl ?_) |(refine kBox ?_;refine LOps.box rfl rfl rfl rfl ?_) |(refine kLoad ?_;first |(refine LOps.ans (AnsL.loadP tT_ok rfl rfl rfl rfl) ?_)) |(refine kLen ?_;first |(refine LOps.ans (AnsL.lenG tT_ok rfl rfl rfl) ?_)) |(refine kCallN 36 ?_;first |(refine LOps.ans (AnsL.callP rfl rfl rfl (ok36) (specl1In_v _ _ _ _)) ?_))) |(refine kWL ?_;first |(refine WL.seq ?_) |(refine WL.region (by kernel_rfl) ?_) |(refine WL.block ?_) |(refine WL.skip ?_) |(refine WL.ret ?_) |(refine kCond ?_;first |(refine WL.condT rfl ?_) |(refine WL.condF rfl ?_) |(refine WL.cond rfl (fun h=>?_) (fun h=>?_)))) |(refine lthen_n ?_) |(refine lthen_r ?_) |(refine lblock_r ?_) |(refine LPost.r1 (r := .tmp 2) (.inl rfl) (Res1.tmp rfl) ?_) |(refine PureR.mk ?_)
   all_goals generalize xs.length=nk at *
   all_goals generalize ys.length=ns at *
   all_goals first |(have hv:val0 v=false:=val0_no (by assumption);simp [V.forget,ShapeQ,hv];done) |(have hv:val0 v=false:=val0_eqn (by assumption);simp [V.forget,ShapeQ,hv];done) |(simp_all [V.forget,ShapeQ,KindOk,val0,inR];done) |(simp_all [V.forget,ShapeQ,KindOk,val0,inR];omega) |(rw [V.forget,V.bool.injEq,Bool.eq_iff_iff];simp_all [ShapeQ,KindOk,val0,inR];omega) | trace_state
 by_cases k9:k=9
 · subst k9
   refine LCalls.pure Try.func112 rfl (by kernel_rfl) (by simp) ?_
   repeat' first |(refine kOps ?_;first |(refine LOps.nil ?_) |(refine kG ?_;first |(refine LOps.gT rfl rfl rfl ?_) |(refine LOps.gF rfl rfl rfl ?_) |(refine LOps.gU rfl rfl ?_) |(refine LOps.gC rfl rfl rfl (fun h=>?_) (fun h=>?_))) |(refine LOps.ev tT_ok rfl ?_) |(refine kBox ?_;refine LOps.box rfl rfl rfl rfl ?_) |(refine kLoad ?_;first |(refine LOps.ans (AnsL.loadP tT_ok rfl rfl rfl rfl) ?_)) |(refine kLen ?_;first |(refine LOps.ans (AnsL.lenG tT_ok rfl rfl rfl) ?_)) |(refine kCallN 36 ?_;first |(refine LOps.ans (AnsL.callP rfl rfl rfl (ok36) (specl1In_v _ _ _ _)) ?_))) |(refine kWL ?_;first |(refine WL.seq ?_) |(refine WL.region (by kernel_rfl) ?_) |(refine WL.block ?_) |(refine WL.skip ?_) |(refine WL.ret ?_) |(refine kCond ?_;first |(refine WL.condT rfl ?_) |(refine WL.condF rfl ?_) |(refine WL.cond rfl (fun h=>?_) (fun h=>?_)))) |(refine lthen_n ?_) |(refine lthen_r ?_) |(refine lblock_r ?_) |(refine LPost.r1 (r := .tmp 2) (.inl rfl) (Res1.tmp rfl) ?_) |(refine PureR.mk ?_)
   all_goals generalize xs.length=nk at *
   all_goals generalize ys.length=ns at *
   all_goals first |(have hv:val0 v=false:=val0_no (by assumption);simp [V.forget,ShapeQ,hv];done) |(have hv:val0 v=false:=val0_eqn (by assumption);simp [V.forget,ShapeQ,hv];done) |(simp_all [V.forget,ShapeQ,KindOk,val0,inR];done) |(simp_all [V.forget,ShapeQ,KindOk,val0,inR];omega) |(rw [V.forget,V.bool.injEq,Bool.eq_iff_iff];simp_all [ShapeQ,KindOk,val0,inR];omega) | trace_state
 · skip
   refine LCalls.pure Try.func112 rfl (by kernel_rfl) (by simp) ?_
   repeat' first |(refine kOps ?_;first |(refine LOps.nil ?_) |(refine kG ?_;first |(refine LOps.gT rfl rfl rfl ?_) |(refine LOps.gF rfl rfl rfl ?_) |(refine LOps.gU rfl rfl ?_) |(refine LOps.gD true rfl rfl rfl ?_ ?_;(focus (first |(simp <;> omega)))) |(refine LOps.gC rfl rfl rfl (fun h=>?_) (fun h=>?_))) |(refine LOps.ev tT_ok rfl ?_) |(refine kBox ?_;refine LOps.box rfl rfl rfl rfl ?_) |(refine kLoad ?_;first |(refine LOps.ans (AnsL.loadP tT_ok rfl rfl rfl rfl) ?_)) |(refine kLen ?_;first |(refine LOps.ans (AnsL.lenG tT_ok rfl rfl rfl) ?_)) |(refine kCallN 36 ?_;first |(refine LOps.ans (AnsL.callP rfl rfl rfl (ok36) (specl1In_v _ _ _ _)) ?_))) |(refine kWL ?_;first |(refine WL.seq ?_) |(refine WL.region (by kernel_rfl) ?_) |(refine WL.block ?_) |(refine WL.skip ?_) |(refine WL.ret ?_) |(refine kCond ?_;first |(refine WL.condT rfl ?_) |(refine WL.condF rfl ?_) |(refine WL.condF' rfl ?_ ?_;(focus (first |(exact decide_eq_false (by assumption))))) |(refine WL.cond rfl (fun h=>?_) (fun h=>?_)))) |(refine lthen_n ?_) |(refine lthen_r ?_) |(refine lblock_n ?_) |(refine LPost.r1 (r := .tmp 2) (.inl rfl) (Res1.tmp rfl) ?_) |(refine PureR.mk ?_)
   all_goals generalize xs.length=nk at *
   all_goals generalize ys.length=ns at *
   all_goals first |(have hv:val0 v=false:=val0_no (by assumption);simp [V.forget,ShapeQ,hv];done) |(have hv:val0 v=false:=val0_eqn (by assumption);simp [V.forget,ShapeQ,hv];done) |(simp_all [V.forget,ShapeQ,KindOk,val0,inR];done) |(simp_all [V.forget,ShapeQ,KindOk,val0,inR];omega) |(rw [V.forget,V.bool.injEq,Bool.eq_iff_iff];simp_all [ShapeQ,KindOk,val0,inR];omega) | trace_state
def formF (a b c d:Bool) (x y z:Int):V := .agg [.bool a,.bool b,.bool c,.bool d,.int .i64 x,.int .i64 y,.int .i64 z]
def formV (k:Int):V := 
 if k=1 then formF false false true false 0 0 0 else if k=2 then formF false false false true 0 0 0 else if k=3 then formF true false false false 1 1 0 else if k=4 then formF true false false false 2 2 0 else if k=5 then formF false true false false 1 1 0 else
 if k=6 then formF false true false false 3 3 0 else if k=7 then formF false true false false 2 9 0 else if k=8 then formF false true false false 1 1 1 else if k=9 then formF false false false false 0 0 1 else formF false false false false 0 0 0
def formOk (k op:Int) (v:Val):Bool:=if k=1 then litOk v else if k=2 then true else if k=3 then decide (op=15) || decide (op=16) else if k=4 then decide (1≤op)&&decide (op≤14) else decide (5≤k)&&decide (k≤9)
theorem formV_forget (k:Int):(formV k).forget=formV k:=by
 unfold formV
 repeat' split
 all_goals rfl
theorem implformOf_v (k op:Int) (v:Val) (a b:V) (s:S):VCalls Try.prog 103 [exprV k op false v [120] a b] s (fun r s'=>r = .tup [formV k,.bool (formOk k op v)]∧s'=s):=by
 have hL:=fun t=>implisLit_v v t
 have hN:=fun t=>implNameOk_v [120] t
 rw [show nameOk [120]=true from rfl] at hN
 have hd:(V.tup [formV k,.bool (formOk k op v)]).dat=true:=by
   unfold formV formF
   repeat' split
   all_goals simp
 by_cases k1:k=1
 · subst k1
   refine LCalls.pure Try.func103 rfl (by kernel_rfl) hd ?_
   repeat' first |(refine kOps ?_;first |(refine LOps.nil ?_) |(refine kStore ?_;refine LOps.storeP tT_ok rfl rfl rfl rfl rfl rfl rfl rfl rfl ?_) |(refine LOps.ev tT_ok rfl ?_) |(refine kBox ?_;refine LOps.box rfl rfl rfl rfl ?_) |(refine kAlloc ?_;refine LOps.alloc tT_ok rfl rfl rfl rfl ?_) |(refine kLoad ?_;first |(refine LOps.ans (AnsL.loadP tT_ok rfl rfl rfl rfl) ?_)) |(refine kCallN 129 ?_;first |(refine LOps.ans (AnsL.callP rfl rfl rfl (ok129) (hL _)) ?_))) |(refine kWL ?_;first |(refine WL.seq ?_) |(refine WL.region (by kernel_rfl) ?_) |(refine WL.block ?_) |(refine WL.ret ?_) |(refine kCond ?_;first |(refine WL.condT rfl ?_))) |(refine lthen_n ?_) |(refine lthen_r ?_) |(refine lblock_r ?_) |(refine LPost.r2 (r := .cell 2 123) (r' := .tmp 3) (.inl rfl) (Res1.cell tT_ok rfl rfl rfl rfl) (Res1.tmp rfl) ?_) |(refine PureR.mk ?_)
   all_goals first | rfl |(simp_all [formV,formF,formOk,V.forget,V.forgetL];done) |(simp_all [formV,formF,formOk,V.forget,V.forgetL];omega) | trace_state
 by_cases k2:k=2
 · subst k2
   refine LCalls.pure Try.func103 rfl (by kernel_rfl) hd ?_
   repeat' first |(refine kOps ?_;first |(refine LOps.nil ?_) |(refine kG ?_;first |(refine LOps.gT rfl rfl rfl ?_) |(refine LOps.gF rfl rfl rfl ?_)) |(refine kStore ?_;refine LOps.storeP tT_ok rfl rfl rfl rfl rfl rfl rfl rfl rfl ?_) |(refine LOps.ev tT_ok rfl ?_) |(refine kBox ?_;refine LOps.box rfl rfl rfl rfl ?_) |(refine kAlloc ?_;refine LOps.alloc tT_ok rfl rfl rfl rfl ?_) |(refine kLoad ?_;first |(refine LOps.ans (AnsL.loadP tT_ok rfl rfl rfl rfl) ?_)) |(refine kCallN 130 ?_;first |(refine LOps.ans (AnsL.callP rfl rfl rfl (ok130) (hN _)) ?_))) |(refine kWL ?_;first |(refine WL.seq ?_) |(refine WL.region (by kernel_rfl) ?_) |(refine WL.block ?_) |(refine WL.ret ?_) |(refine kCond ?_;first |(refine WL.condT rfl ?_) |(refine WL.condF rfl ?_))) |(refine lthen_n ?_) |(refine lthen_r ?_) |(refine lblock_r ?_) |(refine LPost.r2 (r := .cell 2 123) (r' := .tmp 3) (.inl rfl) (Res1.cell tT_ok rfl rfl rfl rfl) (Res1.tmp rfl) ?_) |(refine PureR.mk ?_)
   all_goals first | rfl |(simp_all [formV,formF,formOk,V.forget,V.forgetL];done) |(simp_all [formV,formF,formOk,V.forget,V.forgetL];omega) | trace_state
 by_cases k3:k=3
 · subst k3
   refine LCalls.pure Try.func103 rfl (by kernel_rfl) hd ?_
   repeat' first |(refine kOps ?_;first |(refine LOps.nil ?_) |(refine kStore ?_;refine LOps.storeP tT_ok rfl rfl rfl rfl rfl rfl rfl rfl rfl ?_) |(refine LOps.ev tT_ok rfl ?_) |(refine kBox ?_;refine LOps.box rfl rfl rfl rfl ?_) |(refine kAlloc ?_;refine LOps.alloc tT_ok rfl rfl rfl rfl ?_) |(refine kLoad ?_;first |(refine LOps.ans (AnsL.loadP tT_ok rfl rfl rfl rfl) ?_))) |(refine kWL ?_;first |(refine WL.seq ?_) |(refine WL.region (by kernel_rfl) ?_) |(refine WL.drawn (id:=7) [0,1,2,3,4,5,6,7,8,9,10] [9] [[],[],[1],[1,2],[1,2,3],[1,2,3,4],[1,2,3,4,5],[1,2,3,4,5,6],[1,2,3,4,5,6,7],[0,1,2,3,4],[0,1,2,3,4,5,6,7,8,9]] (by kernel_rfl) (by kernel_rfl) ?_) |(refine WL.block ?_) |(refine WL.ret ?_) |(refine kCond ?_;first |(refine WL.condT rfl ?_) |(refine WL.condF rfl ?_))) |(refine kDr ?_;first |(refine LDr.nil ?_) |(refine LDr.fl rfl rfl (.ev tT_ok rfl) ?_) |(refine LDr.gF rfl rfl rfl rfl rfl ?_) |(refine LDr.gT rfl rfl rfl rfl rfl (.ev tT_ok rfl) ?_) |(refine kDLoad rfl ?_;first |(refine LDr.fl rfl rfl (AnsL.loadP tT_ok rfl rfl rfl rfl) ?_) |(refine LDr.gT rfl rfl rfl rfl rfl (AnsL.loadP tT_ok rfl rfl rfl rfl) ?_)) |(refine LDr.gC rfl rfl rfl rfl (fun h=>?_) (fun h=>?_)) |(refine LDr.eff rfl rfl rfl ?_)) |(refine lthen_n ?_) |(refine lthen_r ?_) |(refine lblock_r ?_) |(refine LPost.r2 (r := .cell 2 123) (r' := .tmp 3) (.inl rfl) (Res1.cell tT_ok rfl rfl rfl rfl) (Res1.tmp rfl) ?_) |(refine PureR.mk ?_) |(refine And.intro ?_ ?_) |(exact StsL.nil) |(refine StsL.cons ?_ ?_) |(refine StL.fl rfl rfl (.ev tT_ok rfl)) |(refine StL.gF rfl rfl rfl rfl rfl) |(refine StL.gT rfl rfl rfl rfl rfl (.ev tT_ok rfl)) |(refine StL.gT rfl rfl rfl rfl rfl (AnsL.loadP tT_ok rfl rfl rfl rfl))
   all_goals first | rfl |(simp_all [formV,formF,formOk,V.forget,V.forgetL];done) |(simp_all [formV,formF,formOk,V.forget,V.forgetL];omega) | trace_state
 by_cases k4:k=4
 · subst k4
   refine LCalls.pure Try.func103 rfl (by kernel_rfl) hd ?_
   repeat' first |(refine kOps ?_;first |(refine LOps.nil ?_) |(refine kStore ?_;refine LOps.storeP tT_ok rfl rfl rfl rfl rfl rfl rfl rfl rfl ?_) |(refine LOps.ev tT_ok rfl ?_) |(refine kBox ?_;refine LOps.box rfl rfl rfl rfl ?_) |(refine kAlloc ?_;refine LOps.alloc tT_ok rfl rfl rfl rfl ?_) |(refine kLoad ?_;first |(refine LOps.ans (AnsL.loadP tT_ok rfl rfl rfl rfl) ?_))) |(refine kWL ?_;first |(refine WL.seq ?_) |(refine WL.region (by kernel_rfl) ?_) |(refine WL.drawn (id:=9) [0,1,2,3,4,5,6,7,8,9,10] [9] [[],[],[1],[1,2],[1,2,3],[1,2,3,4],[1,2,3,4,5],[1,2,3,4,5,6],[1,2,3,4,5,6,7],[0,1,2,3,4],[0,1,2,3,4,5,6,7,8,9]] (by kernel_rfl) (by kernel_rfl) ?_) |(refine WL.block ?_) |(refine WL.ret ?_) |(refine kCond ?_;first |(refine WL.condT rfl ?_) |(refine WL.condF rfl ?_))) |(refine kDr ?_;first |(refine LDr.nil ?_) |(refine LDr.fl rfl rfl (.ev tT_ok rfl) ?_) |(refine LDr.gF rfl rfl rfl rfl rfl ?_) |(refine LDr.gT rfl rfl rfl rfl rfl (.ev tT_ok rfl) ?_) |(refine kDLoad rfl ?_;first |(refine LDr.fl rfl rfl (AnsL.loadP tT_ok rfl rfl rfl rfl) ?_) |(refine LDr.gT rfl rfl rfl rfl rfl (AnsL.loadP tT_ok rfl rfl rfl rfl) ?_)) |(refine LDr.gC rfl rfl rfl rfl (fun h=>?_) (fun h=>?_)) |(refine LDr.eff rfl rfl rfl ?_)) |(refine lthen_n ?_) |(refine lthen_r ?_) |(refine lblock_r ?_) |(refine LPost.r2 (r := .cell 2 123) (r' := .tmp 3) (.inl rfl) (Res1.cell tT_ok rfl rfl rfl rfl) (Res1.tmp rfl) ?_) |(refine PureR.mk ?_) |(refine And.intro ?_ ?_) |(exact StsL.nil) |(refine StsL.cons ?_ ?_) |(refine StL.fl rfl rfl (.ev tT_ok rfl)) |(refine StL.gF rfl rfl rfl rfl rfl) |(refine StL.gT rfl rfl rfl rfl rfl (.ev tT_ok rfl)) |(refine StL.gT rfl rfl rfl rfl rfl (AnsL.loadP tT_ok rfl rfl rfl rfl))
   all_goals first | rfl |(simp_all [formV,formF,formOk,V.forget,V.forgetL];done) |(simp_all [formV,formF,formOk,V.forget,V.forgetL];omega) | trace_state
 by_cases k5:k=5
 · subst k5
   refine LCalls.pure Try.func103 rfl (by kernel_rfl) hd ?_
   repeat' first |(refine kOps ?_;first |(refine LOps.nil ?_) |(refine kStore ?_;refine LOps.storeP tT_ok rfl rfl rfl rfl rfl rfl rfl rfl rfl ?_) |(refine LOps.ev tT_ok rfl ?_) |(refine kBox ?_;refine LOps.box rfl rfl rfl rfl ?_) |(refine kAlloc ?_;refine LOps.alloc tT_ok rfl rfl rfl rfl ?_) |(refine kLoad ?_;first |(refine LOps.ans (AnsL.loadP tT_ok rfl rfl rfl rfl) ?_))) |(refine kWL ?_;first |(refine WL.seq ?_) |(refine WL.region (by kernel_rfl) ?_) |(refine WL.block ?_) |(refine WL.ret ?_) |(refine kCond ?_;first |(refine WL.condT rfl ?_) |(refine WL.condF rfl ?_))) |(refine lthen_n ?_) |(refine lthen_r ?_) |(refine lblock_r ?_) |(refine LPost.r2 (r := .cell 2 123) (r' := .tmp 3) (.inl rfl) (Res1.cell tT_ok rfl rfl rfl rfl) (Res1.tmp rfl) ?_) |(refine PureR.mk ?_)
   all_goals first | rfl |(simp_all [formV,formF,formOk,V.forget,V.forgetL];done) |(simp_all [formV,formF,formOk,V.forget,V.forgetL];omega) | trace_state
 by_cases k6:k=6
 · subst k6
   refine LCalls.pure Try.func103 rfl (by kernel_rfl) hd ?_
   repeat' first |(refine kOps ?_;first |(refine LOps.nil ?_) |(refine kStore ?_;refine LOps.storeP tT_ok rfl rfl rfl rfl rfl rfl rfl rfl rfl ?_) |(refine LOps.ev tT_ok rfl ?_) |(refine kBox ?_;refine LOps.box rfl rfl rfl rfl ?_) |(refine kAlloc ?_;refine LOps.alloc tT_ok rfl rfl rfl rfl ?_) |(refine kLoad ?_;first |(refine LOps.ans (AnsL.loadP tT_ok rfl rfl rfl rfl) ?_))) |(refine kWL ?_;first |(refine WL.seq ?_) |(refine WL.region (by kernel_rfl) ?_) |(refine WL.block ?_) |(refine WL.ret ?_) |(refine kCond ?_;first |(refine WL.condT rfl ?_) |(refine WL.condF rfl ?_))) |(refine lthen_n ?_) |(refine lthen_r ?_) |(refine lblock_r ?_) |(refine LPost.r2 (r := .cell 2 123) (r' := .tmp 3) (.inl rfl) (Res1.cell tT_ok rfl rfl rfl rfl) (Res1.tmp rfl) ?_) |(refine PureR.mk ?_)
   all_goals first | rfl |(simp_all [formV,formF,formOk,V.forget,V.forgetL];done) |(simp_all [formV,formF,formOk,V.forget,V.forgetL];omega) | trace_state
 by_cases k7:k=7
 · subst k7
   refine LCalls.pure Try.func103 rfl (by kernel_rfl) hd ?_
   repeat' first |(refine kOps ?_;first |(refine LOps.nil ?_) |(refine kStore ?_;refine LOps.storeP tT_ok rfl rfl rfl rfl rfl rfl rfl rfl rfl ?_) |(refine LOps.ev tT_ok rfl ?_) |(refine kBox ?_;refine LOps.box rfl rfl rfl rfl ?_) |(refine kAlloc ?_;refine LOps.alloc tT_ok rfl rfl rfl rfl ?_) |(refine kLoad ?_;first |(refine LOps.ans (AnsL.loadP tT_ok rfl rfl rfl rfl) ?_))) |(refine kWL ?_;first |(refine WL.seq ?_) |(refine WL.region (by kernel_rfl) ?_) |(refine WL.block ?_) |(refine WL.ret ?_) |(refine kCond ?_;first |(refine WL.condT rfl ?_) |(refine WL.condF rfl ?_))) |(refine lthen_n ?_) |(refine lthen_r ?_) |(refine lblock_r ?_) |(refine LPost.r2 (r := .cell 2 123) (r' := .tmp 3) (.inl rfl) (Res1.cell tT_ok rfl rfl rfl rfl) (Res1.tmp rfl) ?_) |(refine PureR.mk ?_)
   all_goals first | rfl |(simp_all [formV,formF,formOk,V.forget,V.forgetL];done) |(simp_all [formV,formF,formOk,V.forget,V.forgetL];omega) | trace_state
 by_cases k8:k=8
 · subst k8
   refine LCalls.pure Try.func103 rfl (by kernel_rfl) hd ?_
   repeat' first |(refine kOps ?_;first |(refine LOps.nil ?_) |(refine kStore ?_;refine LOps.storeP tT_ok rfl rfl rfl rfl rfl rfl rfl rfl rfl ?_) |(refine LOps.ev tT_ok rfl ?_) |(refine kBox ?_;refine LOps.box rfl rfl rfl rfl ?_) |(refine kAlloc ?_;refine LOps.alloc tT_ok rfl rfl rfl rfl ?_) |(refine kLoad ?_;first |(refine LOps.ans (AnsL.loadP tT_ok rfl rfl rfl rfl) ?_))) |(refine kWL ?_;first |(refine WL.seq ?_) |(refine WL.region (by kernel_rfl) ?_) |(refine WL.block ?_) |(refine WL.ret ?_) |(refine kCond ?_;first |(refine WL.condT rfl ?_) |(refine WL.condF rfl ?_))) |(refine lthen_n ?_) |(refine lthen_r ?_) |(refine lblock_r ?_) |(refine LPost.r2 (r := .cell 2 123) (r' := .tmp 3) (.inl rfl) (Res1.cell tT_ok rfl rfl rfl rfl) (Res1.tmp rfl) ?_) |(refine PureR.mk ?_)
   all_goals first | rfl |(simp_all [formV,formF,formOk,V.forget,V.forgetL];done) |(simp_all [formV,formF,formOk,V.forget,V.forgetL];omega) | trace_state
 by_cases k9:k=9
 · subst k9
   refine LCalls.pure Try.func103 rfl (by kernel_rfl) hd ?_
   repeat' first |(refine kOps ?_;first |(refine LOps.nil ?_) |(refine kStore ?_;refine LOps.storeP tT_ok rfl rfl rfl rfl rfl rfl rfl rfl rfl ?_) |(refine LOps.ev tT_ok rfl ?_) |(refine kBox ?_;refine LOps.box rfl rfl rfl rfl ?_) |(refine kAlloc ?_;refine LOps.alloc tT_ok rfl rfl rfl rfl ?_) |(refine kLoad ?_;first |(refine LOps.ans (AnsL.loadP tT_ok rfl rfl rfl rfl) ?_))) |(refine kWL ?_;first |(refine WL.seq ?_) |(refine WL.region (by kernel_rfl) ?_) |(refine WL.block ?_) |(refine WL.ret ?_) |(refine kCond ?_;first |(refine WL.condT rfl ?_) |(refine WL.condF rfl ?_))) |(refine lthen_n ?_) |(refine lthen_r ?_) |(refine lblock_r ?_) |(refine LPost.r2 (r := .cell 2 123) (r' := .tmp 3) (.inl rfl) (Res1.cell tT_ok rfl rfl rfl rfl) (Res1.tmp rfl) ?_) |(refine PureR.mk ?_)
   all_goals first | rfl |(simp_all [formV,formF,formOk,V.forget,V.forgetL];done) |(simp_all [formV,formF,formOk,V.forget,V.forgetL];omega) | trace_state
 · refine LCalls.pure Try.func103 rfl (by kernel_rfl) hd ?_
   repeat' first |(refine kOps ?_;first |(refine LOps.nil ?_) |(refine kStore ?_;refine LOps.storeP tT_ok rfl rfl rfl rfl rfl rfl rfl rfl rfl ?_) |(refine LOps.ev tT_ok rfl ?_) |(refine kBox ?_;refine LOps.box rfl rfl rfl rfl ?_) |(refine kAlloc ?_;refine LOps.alloc tT_ok rfl rfl rfl rfl ?_) |(refine kLoad ?_;first |(refine LOps.ans (AnsL.loadP tT_ok rfl rfl rfl rfl) ?_))) |(refine kWL ?_;first |(refine WL.seq ?_) |(refine WL.region (by kernel_rfl) ?_) |(refine WL.block ?_) |(refine WL.skip ?_) |(refine WL.ret ?_) |(refine kCond ?_;first |(refine WL.condF' rfl ?_ ?_;(focus (first |(exact decide_eq_false (by assumption))))))) |(refine lthen_n ?_) |(refine lblock_n ?_) |(refine LPost.r2 (r := .cell 2 123) (r' := .tmp 3) (.inl rfl) (Res1.cell tT_ok rfl rfl rfl rfl) (Res1.tmp rfl) ?_) |(refine PureR.mk ?_)
   all_goals first |(simp_all [formV,formF,formOk,V.forget,V.forgetL];done) |(simp_all [formV,formF,formOk,V.forget,V.forgetL];omega) | trace_state
end Go.Proofs.Ytolhegocbkckdaa
