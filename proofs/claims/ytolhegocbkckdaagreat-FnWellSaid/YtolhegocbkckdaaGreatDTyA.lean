/-
 The form of plans' trees, the types that meet, and what else types of plans are made of. Own work; no condition.
-/
import Derived.Test.YtolhegocbkckdaaGreatMg36
namespace Go.Proofs.YtolhegocbkckdaaGreat
open Go
set_option linter.unusedSimpArgs false
set_option linter.unusedVariables false
theorem jh (t:List UInt8) (s:S):VCalls Tryz.prog 25 [.str t] s (fun v s'=>v = .bool (nameOk t)∧s'=s):=by
 refine zi.pure Tryz.func25 rfl (by kernel_rfl) (by simp) ?_
 repeat' first|(refine zf ?_;first|(refine zq.nil ?_)|(refine zq.ev zx rfl ?_)|(refine zy 27 ?_;first|(refine zq.ans (zk.ze rfl rfl rfl (jO) (q9 _ _ _ _)) ?_)))|(refine zH ?_;first|(refine WL.seq ?_)|(refine WL.region (by kernel_rfl) ?_)|(refine WL.ret ?_))|(refine zw ?_)|(refine zh.r1 (r := .tmp 2) (.inl rfl) (zn.tmp rfl) ?_)|(refine zX.mk ?_)
 simp [nameOk,jw]
theorem j6 (t:List UInt8) (s:S):VCalls Tryz.prog 55 [.str t] s (fun v s'=>v = .bool (nameOk t)∧s'=s):=by
 refine zi.pure Tryz.func55 rfl (by kernel_rfl) (by simp) ?_
 repeat' first|(refine zf ?_;first|(refine zq.nil ?_)|(refine kG ?_;first|(refine zq.gT rfl rfl rfl ?_)|(refine zq.gF rfl rfl rfl ?_)|(refine zq.gC rfl rfl rfl (fun h=>?_) (fun h=>?_)))|(refine zq.ev zx rfl ?_))|(refine zH ?_;first|(refine WL.seq ?_)|(refine WL.region (by kernel_rfl) ?_)|(refine WL.ret ?_))|(refine zw ?_)|(refine zh.r1 (r := .tmp 2) (.inl rfl) (zn.tmp rfl) ?_)|(refine zX.mk ?_)
 all_goals (simp_all [nameOk] <;> (intros;omega))
theorem JV (v:Val) (s:S):VCalls Tryz.prog 122 [v.zF] s (fun r s'=>r = .bool (Q5 v)∧s'=s):=by
 refine zi.pure Tryz.func122 rfl (by kernel_rfl) (by simp) ?_
 repeat' first|(refine zf ?_;first|(refine zq.nil ?_)|(refine kG ?_;first|(refine zq.gT rfl rfl rfl ?_)|(refine zq.gF rfl rfl rfl ?_)|(refine zq.gU rfl rfl ?_)|(refine zq.gC rfl rfl rfl (fun h=>?_) (fun h=>?_)))|(refine zq.ev zx rfl ?_)|(refine qW ?_;refine zq.box rfl rfl rfl rfl ?_)|(refine zo ?_;first|(refine zq.ans (zk.zm zx rfl rfl rfl rfl) ?_))|(refine zy 125 ?_;first|(refine zq.ans (zk.ze rfl rfl rfl (Lv) (Qz _ _)) ?_)))|(refine zH ?_;first|(refine WL.seq ?_)|(refine WL.region (by kernel_rfl) ?_)|(refine WL.ret ?_))|(refine zw ?_)|(refine zh.r1 (r := .tmp 2) (.inl rfl) (zn.tmp rfl) ?_)|(refine zX.mk ?_)
 all_goals (simp_all [Q5] <;> (intros;omega))
theorem JW (v:Val) (s:S):VCalls Tryz.prog 106 [v.zF] s (fun r s'=>r = .bool (Q5 v)∧s'=s):=by
 refine zi.pure Tryz.func106 rfl (by kernel_rfl) (by simp) ?_
 repeat' first|(refine zf ?_;first|(refine zq.nil ?_)|(refine kG ?_;first|(refine zq.gT rfl rfl rfl ?_)|(refine zq.gF rfl rfl rfl ?_)|(refine zq.gU rfl rfl ?_)|(refine zq.gC rfl rfl rfl (fun h=>?_) (fun h=>?_)))|(refine zq.ev zx rfl ?_)|(refine qW ?_;refine zq.box rfl rfl rfl rfl ?_)|(refine zo ?_;first|(refine zq.ans (zk.zm zx rfl rfl rfl rfl) ?_))|(refine zy 120 ?_;first|(refine zq.ans (zk.ze rfl rfl rfl (H8) (Qq _ _)) ?_)))|(refine zH ?_;first|(refine WL.seq ?_)|(refine WL.region (by kernel_rfl) ?_)|(refine WL.ret ?_))|(refine zw ?_)|(refine zh.r1 (r := .tmp 2) (.inl rfl) (zn.tmp rfl) ?_)|(refine zX.mk ?_)
 all_goals (simp_all [Q5] <;> (intros;omega))
theorem ZC (s:S):VCalls Tryz.prog 123 [.str []] s (fun v s'=>v = .bool true∧s'=s):=by
 refine zi.pure Tryz.func123 rfl (by kernel_rfl) (by simp) ?_
 repeat' first|(refine zf ?_;first|(refine zq.nil ?_)|(refine kG ?_;first|(refine zq.gF rfl rfl rfl ?_))|(refine zq.ev zx rfl ?_))|(refine zH ?_;first|(refine WL.seq ?_)|(refine WL.region (by kernel_rfl) ?_)|(refine WL.ret ?_))|(refine zw ?_)|(refine zh.r1 (r := .tmp 2) (.inl rfl) (zn.tmp rfl) ?_)|(refine zX.mk ?_)
 rfl
theorem lC (l:List Int) (hl:l.length≤16777216) (s:S):VCalls Tryz.prog 100 [ints l] s (fun v s'=>v = .bool (vW 0 l).isSome∧s'=s):=by
 refine zi.pure Tryz.func100 rfl (by kernel_rfl) (by simp) ?_
 repeat' first|(refine zf ?_;first|(refine zq.nil ?_)|(refine zq.ev zx rfl ?_))|(refine zH ?_;first|(refine WL.seq ?_)|(refine WL.region (by kernel_rfl) ?_)|(refine WL.block ?_))|(refine zw ?_)
 refine WL.xK (fun x:Nat × Int=>l.length - x.1) (fun x=>[(0,ints l),(3,.int .i64 x.2),(4,.int .i64 (x.1:Int))]) (fun i=>[])
   (fun x=>x.1≤l.length∧vW 0 l=vW x.2 (l.drop x.1)) 0 (0,0) ⟨by simp,by simp⟩ (fun _=>rfl) ⟨rfl,rfl,rfl,trivial⟩ rfl (fun i hi=>?_) (fun i hi=>?_)
 · simp [qF,qG,V.under,V.zO,ints]
 obtain ⟨i,t⟩:=i
 obtain ⟨hi,hc⟩:=hi
 try dsimp only at hi hc ⊢
 rcases Nat.lt_or_ge i l.length with hlt | hge
 · rw [List.drop_eq_getElem_cons hlt, vW] at hc
   have hga:(l.map iV)[i]?=some (iV l[i]):=by simp [hlt]
   generalize l[i]=y at hga hc
   have hM:=fun s=>ZY t y s
   generalize fK t y=m at hc hM
   obtain ⟨u,b⟩:=m
   cases b
   · dsimp only at hc
     rw [hc]
     repeat' first|(refine zf ?_;first|(refine zq.nil ?_)|(refine zq.ev zx rfl ?_)|(refine qx ?_;first|(refine zq.ans (zk.z8 zx rfl rfl rfl) ?_))|(refine xw ?_;first|(refine zq.ans (zk.idx zx rfl rfl rfl rfl rfl hga rfl rfl) ?_))|(refine zy 112 ?_;first|(refine zq.ans (zk.ze rfl rfl rfl (Av) (hM _)) ?_)))|(refine zH ?_;first|(refine WL.seq ?_)|(refine WL.region (by kernel_rfl) ?_)|(refine WL.block ?_)|(refine WL.skip ?_)|(refine WL.ret ?_)|(refine zu ?_;first|(refine WL.qb rfl ?_)|(refine WL.zJ rfl ?_ ?_;(focus (first|(simp <;> omega))))))|(refine zw ?_)|(refine zZ ?_)|(refine zB ?_)|(refine qH ?_)|(refine zh.r1 (r := .tmp 2) (.inl rfl) (zn.tmp rfl) ?_)|(refine zX.mk ?_)
     rfl
   · dsimp only at hc
     repeat' first|(refine zf ?_;first|(refine zq.nil ?_)|(refine zq.ev zx rfl ?_)|(refine qx ?_;first|(refine zq.ans (zk.z8 zx rfl rfl rfl) ?_))|(refine xk ?_;first|(refine zq.ans (zk.add rfl rfl ?_) ?_;(focus (constructor <;> omega))))|(refine xw ?_;first|(refine zq.ans (zk.idx zx rfl rfl rfl rfl rfl hga rfl rfl) ?_))|(refine zy 112 ?_;first|(refine zq.ans (zk.ze rfl rfl rfl (Av) (hM _)) ?_)))|(refine zH ?_;first|(refine WL.seq ?_)|(refine WL.region (by kernel_rfl) ?_)|(refine WL.block ?_)|(refine WL.skip ?_)|(refine zu ?_;first|(refine WL.qQ rfl ?_)|(refine WL.zJ rfl ?_ ?_;(focus (first|(simp <;> omega))))))|(refine zw ?_)|(refine zQ ?_)
     refine qB.of (i+1,u) ⟨by omega,hc⟩ (by show l.length - (i+1)<l.length - i;omega) ?_ rfl
     exact ⟨rfl,rfl,rfl,trivial⟩
 · rw [List.drop_of_length_le hge, vW] at hc
   rw [hc]
   repeat' first|(refine zf ?_;first|(refine zq.nil ?_)|(refine zq.ev zx rfl ?_)|(refine qx ?_;first|(refine zq.ans (zk.z8 zx rfl rfl rfl) ?_)))|(refine zH ?_;first|(refine WL.seq ?_)|(refine WL.region (by kernel_rfl) ?_)|(refine WL.exit ?_)|(refine WL.ret ?_)|(refine zu ?_;first|(refine WL.zY rfl ?_ ?_;(focus (first|(simp <;> omega))))))|(refine zw ?_)|(refine zC ?_)|(refine zV ?_)|(refine zL ?_)|(refine zh.r1 (r := .tmp 2) (.inl rfl) (zn.tmp rfl) ?_)|(refine zX.mk ?_)
   rfl
@[simp] theorem LU (o:Option Int):(eU o).dat=true:=by simp [eU]
theorem Ql (l:List Int) (hl:l.length≤16777216) (s:S):VCalls Tryz.prog 92 [ints l] s (fun v s'=>v=eU (vW 0 l)∧s'=s):=by
 refine zi.pure Tryz.func92 rfl (by kernel_rfl) (by simp) ?_
 repeat' first|(refine zf ?_;first|(refine zq.nil ?_)|(refine zq.ev zx rfl ?_)|(refine qx ?_;first|(refine zq.ans (zk.z8 zx rfl rfl rfl) ?_)))|(refine zH ?_;first|(refine WL.seq ?_)|(refine WL.region (by kernel_rfl) ?_)|(refine WL.block ?_))|(refine zw ?_)
 refine WL.xK (fun x:Nat × Int=>l.length - x.1) (fun x=>[(4,.int .i64 x.2),(9,ints l),(10,.int .i64 l.length),(11,.int .i64 (x.1:Int))]) (fun i=>[])
   (fun x=>x.1≤l.length∧vW 0 l=vW x.2 (l.drop x.1)) 0 (0,0) ⟨by simp,by simp⟩ (fun _=>rfl) ⟨rfl,rfl,rfl,rfl,trivial⟩ rfl (fun i hi=>?_) (fun i hi=>?_)
 · simp [qF,qG,V.under,V.zO,ints]
 obtain ⟨i,t⟩:=i
 obtain ⟨hi,hc⟩:=hi
 try dsimp only at hi hc ⊢
 rcases Nat.lt_or_ge i l.length with hlt | hge
 · rw [List.drop_eq_getElem_cons hlt, vW] at hc
   have hga:(l.map iV)[i]?=some (iV l[i]):=by simp [hlt]
   generalize l[i]=y at hga hc
   have hM:=fun s=>ZW t y s
   generalize fK t y=m at hc hM
   obtain ⟨u,b⟩:=m
   cases b
   · dsimp only at hc
     rw [hc]
     repeat' first|(refine zf ?_;first|(refine zq.nil ?_)|(refine zq.ev zx rfl ?_)|(refine xw ?_;first|(refine zq.ans (zk.idx zx rfl rfl rfl rfl rfl hga rfl rfl) ?_))|(refine zy 108 ?_;first|(refine zq.ans (zk.ze rfl rfl rfl (Aj) (hM _)) ?_)))|(refine zH ?_;first|(refine WL.seq ?_)|(refine WL.region (by kernel_rfl) ?_)|(refine WL.block ?_)|(refine WL.skip ?_)|(refine WL.ret ?_)|(refine zu ?_;first|(refine WL.qb rfl ?_)|(refine WL.zJ rfl ?_ ?_;(focus (first|(simp <;> omega))))))|(refine zw ?_)|(refine zZ ?_)|(refine zB ?_)|(refine qH ?_)|(refine zh.r2 (r := .tmp 2) (r' := .tmp 3) (.inl rfl) (zn.tmp rfl) (zn.tmp rfl) ?_)|(refine zX.mk ?_)
     rfl
   · dsimp only at hc
     repeat' first|(refine zf ?_;first|(refine zq.nil ?_)|(refine zq.ev zx rfl ?_)|(refine xk ?_;first|(refine zq.ans (zk.add rfl rfl ?_) ?_;(focus (constructor <;> omega))))|(refine xw ?_;first|(refine zq.ans (zk.idx zx rfl rfl rfl rfl rfl hga rfl rfl) ?_))|(refine zy 108 ?_;first|(refine zq.ans (zk.ze rfl rfl rfl (Aj) (hM _)) ?_)))|(refine zH ?_;first|(refine WL.seq ?_)|(refine WL.region (by kernel_rfl) ?_)|(refine WL.block ?_)|(refine WL.skip ?_)|(refine zu ?_;first|(refine WL.qQ rfl ?_)|(refine WL.zJ rfl ?_ ?_;(focus (first|(simp <;> omega))))))|(refine zw ?_)|(refine zQ ?_)
     refine qB.of (i+1,u) ⟨by omega,hc⟩ (by show l.length - (i+1)<l.length - i;omega) ?_ rfl
     exact ⟨rfl,rfl,rfl,rfl,trivial⟩
 · rw [List.drop_of_length_le hge, vW] at hc
   rw [hc]
   repeat' first|(refine zf ?_;first|(refine zq.nil ?_)|(refine zq.ev zx rfl ?_))|(refine zH ?_;first|(refine WL.seq ?_)|(refine WL.region (by kernel_rfl) ?_)|(refine WL.exit ?_)|(refine WL.ret ?_)|(refine zu ?_;first|(refine WL.zY rfl ?_ ?_;(focus (first|(simp <;> omega))))))|(refine zw ?_)|(refine zC ?_)|(refine zV ?_)|(refine zL ?_)|(refine zh.r2 (r := .tmp 2) (r' := .tmp 3) (.inl rfl) (zn.tmp rfl) (zn.tmp rfl) ?_)|(refine zX.mk ?_)
   rfl
def jH (env:List (List Int)):V := .sl 0 (env.map ints)
theorem oo (row:List Int) (env:List (List Int)) (h:env.length≤16777216) (s:S):VCalls Tryz.prog 64 [ints row,jH env] s (fun v s'=>v=jH (row::env)∧s'=s):=by
 refine zi.pure Tryz.func64 rfl (by kernel_rfl) (by simp [jH]) ?_
 repeat' first|(refine zf ?_;first|(refine zq.nil ?_)|(refine zq.ev zx rfl ?_)|(refine kZ ?_;first|(refine zq.Kl zx rfl rfl rfl rfl rfl rfl rfl rfl rfl rfl rfl ?_))|(refine ji ?_;first|(refine zq.app zx rfl rfl rfl rfl rfl rfl rfl rfl rfl rfl rfl ?_ ?_ (xU.of ?_ rfl) ?_;(focus (first | rfl));(focus (first | exact zS.of rfl | exact zS.map fun _=>rfl | exact PE.els _ (fun _=>rfl) _));(focus (first | omega |(simp;omega))))))|(refine zH ?_;first|(refine WL.seq ?_)|(refine WL.region (by kernel_rfl) ?_)|(refine WL.ret ?_))|(refine zw ?_)|(refine zh.r1 (r := .tmp 4) (.inl rfl) (zn.tmp rfl) ?_)|(refine zX.mk ?_)
 simp [jH,V.forget]
theorem lD (row:List Int) (env:List (List Int)) (h:env.length≤16777216) (s:S):VCalls Tryz.prog 22 [ints row,jH env] s (fun v s'=>v=jH (row::env)∧s'=s):=by
 refine zi.pure Tryz.func22 rfl (by kernel_rfl) (by simp [jH]) ?_
 repeat' first|(refine zf ?_;first|(refine zq.nil ?_)|(refine zq.ev zx rfl ?_)|(refine kZ ?_;first|(refine zq.Kl zx rfl rfl rfl rfl rfl rfl rfl rfl rfl rfl rfl ?_))|(refine ji ?_;first|(refine zq.app zx rfl rfl rfl rfl rfl rfl rfl rfl rfl rfl rfl ?_ ?_ (xU.of ?_ rfl) ?_;(focus (first | rfl));(focus (first | exact zS.of rfl | exact zS.map fun _=>rfl | exact PE.els _ (fun _=>rfl) _));(focus (first | omega |(simp;omega))))))|(refine zH ?_;first|(refine WL.seq ?_)|(refine WL.region (by kernel_rfl) ?_)|(refine WL.ret ?_))|(refine zw ?_)|(refine zh.r1 (r := .tmp 4) (.inl rfl) (zn.tmp rfl) ?_)|(refine zX.mk ?_)
 simp [jH,V.forget]
def dU (k op:Int) (nt:Bool) (v:Val) (col:List UInt8) (a b:V):V := .agg [.int .i64 k,.int .i64 op,.bool nt,.int .i64 v.kind,.int .i64 v.num,.str v.text,.str [],.str col,a,b]
def zR (k op:Int) (nt:Bool) (v:Val) (nk ns:Nat):Prop:=(k=1∨qR v=true)∧(k=3∨k=4∨op=0)∧(nt=false∨(5≤k∧k≤8))∧qU k op v nk ns
instance (k op:Int) (nt:Bool) (v:Val) (nk ns:Nat):Decidable (zR k op nt v nk ns):=by unfold zR;infer_instance
theorem Yb (k op:Int) (nt:Bool) (v:Val) (up pos:Int) (nk ns:Nat):ZU k op nt v up pos nk ns↔(k=2∨(up=0∧pos=0))∧zR k op nt v nk ns:=Iff.rfl
theorem jK {v:Val} (h:(!(fun r=>decide (v.kind=0)&&r) ((fun r=>decide (v.num=0)&&r) ((fun r=>decide (v.text=[])&&r) true)))=true):qR v=false:=by
 simp only [qR]
 revert h
 cases decide (v.kind=0) <;> cases decide (v.num=0) <;> cases decide (v.text=[]) <;> simp
theorem kD {v:Val} (h:((fun r=>decide (v.kind=0)&&r) ((fun r=>decide (v.num=0)&&r) ((fun r=>decide (v.text=[])&&r) true)))=false):qR v=false:=by
 simp only [qR]
 revert h
 cases decide (v.kind=0) <;> cases decide (v.num=0) <;> cases decide (v.text=[]) <;> simp
theorem LA (v:Val):qR v=true↔v.kind=0∧v.num=0∧v.text=[]:=by simp [qR]
theorem Qm (k op:Int) (nt:Bool) (v:Val) (xs ys:List V) (h1:xs.length≤16777216) (h2:ys.length≤16777216) (s:S):VCalls Tryz.prog 109 [dU k op nt v (if k=2 then [97] else []) (.sl 0 xs) (.sl 0 ys)] s (fun r s'=>r = .bool (decide (zR k op nt v xs.length ys.length))∧s'=s):=by
 have hL:=fun t=>JV v t
 have hN:=fun t=>jh [97] t
 rw [show nameOk [97]=true from rfl] at hN
 by_cases k1:k=1
 · subst k1
   refine zi.pure Tryz.func109 rfl (by kernel_rfl) (by simp) ?_
   repeat' first|(refine zf ?_;first|(refine zq.nil ?_)|(refine kG ?_;first|(refine zq.gT rfl rfl rfl ?_)|(refine zq.gF rfl rfl rfl ?_)|(refine zq.gU rfl rfl ?_)|(refine zq.gC rfl rfl rfl (fun h=>?_) (fun h=>?_)))|(refine zq.ev zx rfl ?_)|(refine qW ?_;refine zq.box rfl rfl rfl rfl ?_)|(refine zo ?_;first|(refine zq.ans (zk.zm zx rfl rfl rfl rfl) ?_))|(refine qx ?_;first|(refine zq.ans (zk.rH zx rfl rfl rfl) ?_))|(refine xk ?_;first|(refine zq.ans (zk.add rfl rfl ?_) ?_;(focus (constructor <;> omega))))|(refine zy 122 ?_;first|(refine zq.ans (zk.ze rfl rfl rfl (H9) (hL _)) ?_))|(refine zy 27 ?_;first|(refine zq.ans (zk.ze rfl rfl rfl (jO) (q9 _ _ _ _)) ?_)))|(refine zH ?_;first|(refine WL.seq ?_)|(refine WL.region (by kernel_rfl) ?_)|(refine WL.block ?_)|(refine WL.skip ?_)|(refine WL.ret ?_)|(refine zu ?_;first|(refine WL.qb rfl ?_)|(refine WL.qQ rfl ?_)))|(refine zw ?_)|(refine zZ ?_)|(refine zB ?_)|(refine zh.r1 (r := .tmp 2) (.inl rfl) (zn.tmp rfl) ?_)|(refine zX.mk ?_)
   all_goals generalize xs.length=nk at *
   all_goals generalize ys.length=ns at *
   all_goals first|(have hv:qR v=false:=jK (by assumption);simp [V.forget,zR,hv];done)|(have hv:qR v=false:=kD (by assumption);simp [V.forget,zR,hv];done)|(simp_all [V.forget,zR,qU,qR,jw];done)|(simp_all [V.forget,zR,qU,qR,jw];omega)|(rw [V.forget,V.bool.injEq,Bool.eq_iff_iff];simp_all [zR,qU,qR,jw];omega) | trace_state
 by_cases k2:k=2
 · subst k2
   refine zi.pure Tryz.func109 rfl (by kernel_rfl) (by simp) ?_
   repeat' first|(refine zf ?_;first|(refine zq.nil ?_)|(refine kG ?_;first|(refine zq.gT rfl rfl rfl ?_)|(refine zq.gF rfl rfl rfl ?_)|(refine zq.gU rfl rfl ?_)|(refine zq.gC rfl rfl rfl (fun h=>?_) (fun h=>?_)))|(refine zq.ev zx rfl ?_)|(refine qW ?_;refine zq.box rfl rfl rfl rfl ?_)|(refine zo ?_;first|(refine zq.ans (zk.zm zx rfl rfl rfl rfl) ?_))|(refine qx ?_;first|(refine zq.ans (zk.rH zx rfl rfl rfl) ?_))|(refine xk ?_;first|(refine zq.ans (zk.add rfl rfl ?_) ?_;(focus (constructor <;> omega))))|(refine zy 123 ?_;first|(refine zq.ans (zk.ze rfl rfl rfl (Lx) (ZC _)) ?_))|(refine zy 25 ?_;first|(refine zq.ans (zk.ze rfl rfl rfl (Ze) (hN _)) ?_))|(refine zy 27 ?_;first|(refine zq.ans (zk.ze rfl rfl rfl (jO) (q9 _ _ _ _)) ?_)))|(refine zH ?_;first|(refine WL.seq ?_)|(refine WL.region (by kernel_rfl) ?_)|(refine WL.block ?_)|(refine WL.skip ?_)|(refine WL.ret ?_)|(refine zu ?_;first|(refine WL.qb rfl ?_)|(refine WL.qQ rfl ?_)|(refine WL.cond rfl (fun h=>?_) (fun h=>?_))))|(refine zw ?_)|(refine zZ ?_)|(refine zB ?_)|(refine zh.r1 (r := .tmp 2) (.inl rfl) (zn.tmp rfl) ?_)|(refine zX.mk ?_)
   all_goals generalize xs.length=nk at *
   all_goals generalize ys.length=ns at *
   all_goals first|(have hv:qR v=false:=jK (by assumption);simp [V.forget,zR,hv];done)|(have hv:qR v=false:=kD (by assumption);simp [V.forget,zR,hv];done)|(simp_all [V.forget,zR,qU,qR,jw];done)|(simp_all [V.forget,zR,qU,qR,jw];omega)|(rw [V.forget,V.bool.injEq,Bool.eq_iff_iff];simp_all [zR,qU,qR,jw];omega) | trace_state
 by_cases k3:k=3
 · subst k3
   refine zi.pure Tryz.func109 rfl (by kernel_rfl) (by simp) ?_
   repeat' first|(refine zf ?_;first|(refine zq.nil ?_)|(refine kG ?_;first|(refine zq.gT rfl rfl rfl ?_)|(refine zq.gF rfl rfl rfl ?_)|(refine zq.gC rfl rfl rfl (fun h=>?_) (fun h=>?_)))|(refine zq.ev zx rfl ?_)|(refine qW ?_;refine zq.box rfl rfl rfl rfl ?_)|(refine zo ?_;first|(refine zq.ans (zk.zm zx rfl rfl rfl rfl) ?_))|(refine qx ?_;first|(refine zq.ans (zk.rH zx rfl rfl rfl) ?_))|(refine zy 27 ?_;first|(refine zq.ans (zk.ze rfl rfl rfl (jO) (q9 _ _ _ _)) ?_)))|(refine zH ?_;first|(refine WL.seq ?_)|(refine WL.region (by kernel_rfl) ?_)|(refine WL.block ?_)|(refine WL.skip ?_)|(refine WL.ret ?_)|(refine zu ?_;first|(refine WL.qb rfl ?_)|(refine WL.qQ rfl ?_)|(refine WL.cond rfl (fun h=>?_) (fun h=>?_))))|(refine zw ?_)|(refine zZ ?_)|(refine zB ?_)|(refine zh.r1 (r := .tmp 2) (.inl rfl) (zn.tmp rfl) ?_)|(refine zX.mk ?_)
   all_goals generalize xs.length=nk at *
   all_goals generalize ys.length=ns at *
   all_goals first|(have hv:qR v=false:=jK (by assumption);simp [V.forget,zR,hv];done)|(have hv:qR v=false:=kD (by assumption);simp [V.forget,zR,hv];done)|(simp_all [V.forget,zR,qU,qR,jw];done)|(simp_all [V.forget,zR,qU,qR,jw];omega)|(rw [V.forget,V.bool.injEq,Bool.eq_iff_iff];simp_all [zR,qU,qR,jw];omega) | trace_state
 by_cases k4:k=4
 · subst k4
   refine zi.pure Tryz.func109 rfl (by kernel_rfl) (by simp) ?_
   repeat' first|(refine zf ?_;first|(refine zq.nil ?_)|(refine kG ?_;first|(refine zq.gT rfl rfl rfl ?_)|(refine zq.gF rfl rfl rfl ?_)|(refine zq.gC rfl rfl rfl (fun h=>?_) (fun h=>?_)))|(refine zq.ev zx rfl ?_)|(refine qW ?_;refine zq.box rfl rfl rfl rfl ?_)|(refine zo ?_;first|(refine zq.ans (zk.zm zx rfl rfl rfl rfl) ?_))|(refine qx ?_;first|(refine zq.ans (zk.rH zx rfl rfl rfl) ?_))|(refine zy 27 ?_;first|(refine zq.ans (zk.ze rfl rfl rfl (jO) (q9 _ _ _ _)) ?_)))|(refine zH ?_;first|(refine WL.seq ?_)|(refine WL.region (by kernel_rfl) ?_)|(refine WL.block ?_)|(refine WL.skip ?_)|(refine WL.ret ?_)|(refine zu ?_;first|(refine WL.qb rfl ?_)|(refine WL.qQ rfl ?_)|(refine WL.cond rfl (fun h=>?_) (fun h=>?_))))|(refine zw ?_)|(refine zZ ?_)|(refine zB ?_)|(refine zh.r1 (r := .tmp 2) (.inl rfl) (zn.tmp rfl) ?_)|(refine zX.mk ?_)
   all_goals generalize xs.length=nk at *
   all_goals generalize ys.length=ns at *
   all_goals first|(have hv:qR v=false:=jK (by assumption);simp [V.forget,zR,hv];done)|(have hv:qR v=false:=kD (by assumption);simp [V.forget,zR,hv];done)|(simp_all [V.forget,zR,qU,qR,jw];done)|(simp_all [V.forget,zR,qU,qR,jw];omega)|(rw [V.forget,V.bool.injEq,Bool.eq_iff_iff];simp_all [zR,qU,qR,jw];omega) | trace_state
 by_cases k5:k=5
 · subst k5
   refine zi.pure Tryz.func109 rfl (by kernel_rfl) (by simp) ?_
   repeat' first|(refine zf ?_;first|(refine zq.nil ?_)|(refine kG ?_;first|(refine zq.gT rfl rfl rfl ?_)|(refine zq.gF rfl rfl rfl ?_)|(refine zq.gU rfl rfl ?_)|(refine zq.gC rfl rfl rfl (fun h=>?_) (fun h=>?_)))|(refine zq.ev zx rfl ?_)|(refine qW ?_;refine zq.box rfl rfl rfl rfl ?_)|(refine zo ?_;first|(refine zq.ans (zk.zm zx rfl rfl rfl rfl) ?_))|(refine qx ?_;first|(refine zq.ans (zk.rH zx rfl rfl rfl) ?_))|(refine zy 27 ?_;first|(refine zq.ans (zk.ze rfl rfl rfl (jO) (q9 _ _ _ _)) ?_)))|(refine zH ?_;first|(refine WL.seq ?_)|(refine WL.region (by kernel_rfl) ?_)|(refine WL.block ?_)|(refine WL.skip ?_)|(refine WL.ret ?_)|(refine zu ?_;first|(refine WL.qb rfl ?_)|(refine WL.qQ rfl ?_)|(refine WL.cond rfl (fun h=>?_) (fun h=>?_))))|(refine zw ?_)|(refine zZ ?_)|(refine zB ?_)|(refine zh.r1 (r := .tmp 2) (.inl rfl) (zn.tmp rfl) ?_)|(refine zX.mk ?_)
   all_goals generalize xs.length=nk at *
   all_goals generalize ys.length=ns at *
   all_goals first|(have hv:qR v=false:=jK (by assumption);simp [V.forget,zR,hv];done)|(have hv:qR v=false:=kD (by assumption);simp [V.forget,zR,hv];done)|(simp_all [V.forget,zR,qU,qR,jw];done)|(simp_all [V.forget,zR,qU,qR,jw];omega)|(rw [V.forget,V.bool.injEq,Bool.eq_iff_iff];simp_all [zR,qU,qR,jw];omega) | trace_state
 by_cases k6:k=6
 · subst k6
   refine zi.pure Tryz.func109 rfl (by kernel_rfl) (by simp) ?_
   repeat' first|(refine zf ?_;first|(refine zq.nil ?_)|(refine kG ?_;first|(refine zq.gT rfl rfl rfl ?_)|(refine zq.gF rfl rfl rfl ?_)|(refine zq.gU rfl rfl ?_)|(refine zq.gC rfl rfl rfl (fun h=>?_) (fun h=>?_)))|(refine zq.ev zx rfl ?_)|(refine qW ?_;refine zq.box rfl rfl rfl rfl ?_)|(refine zo ?_;first|(refine zq.ans (zk.zm zx rfl rfl rfl rfl) ?_))|(refine qx ?_;first|(refine zq.ans (zk.rH zx rfl rfl rfl) ?_))|(refine zy 27 ?_;first|(refine zq.ans (zk.ze rfl rfl rfl (jO) (q9 _ _ _ _)) ?_)))|(refine zH ?_;first|(refine WL.seq ?_)|(refine WL.region (by kernel_rfl) ?_)|(refine WL.block ?_)|(refine WL.skip ?_)|(refine WL.ret ?_)|(refine zu ?_;first|(refine WL.qb rfl ?_)|(refine WL.qQ rfl ?_)|(refine WL.cond rfl (fun h=>?_) (fun h=>?_))))|(refine zw ?_)|(refine zZ ?_)|(refine zB ?_)|(refine zh.r1 (r := .tmp 2) (.inl rfl) (zn.tmp rfl) ?_)|(refine zX.mk ?_)
   all_goals generalize xs.length=nk at *
   all_goals generalize ys.length=ns at *
   all_goals first|(have hv:qR v=false:=jK (by assumption);simp [V.forget,zR,hv];done)|(have hv:qR v=false:=kD (by assumption);simp [V.forget,zR,hv];done)|(simp_all [V.forget,zR,qU,qR,jw];done)|(simp_all [V.forget,zR,qU,qR,jw];omega)|(rw [V.forget,V.bool.injEq,Bool.eq_iff_iff];simp_all [zR,qU,qR,jw];omega) | trace_state
 by_cases k7:k=7
 · subst k7
   refine zi.pure Tryz.func109 rfl (by kernel_rfl) (by simp) ?_
   repeat' first|(refine zf ?_;first|(refine zq.nil ?_)|(refine kG ?_;first|(refine zq.gT rfl rfl rfl ?_)|(refine zq.gF rfl rfl rfl ?_)|(refine zq.gU rfl rfl ?_)|(refine zq.gC rfl rfl rfl (fun h=>?_) (fun h=>?_)))|(refine zq.ev zx rfl ?_)|(refine qW ?_;refine zq.box rfl rfl rfl rfl ?_)|(refine zo ?_;first|(refine zq.ans (zk.zm zx rfl rfl rfl rfl) ?_))|(refine qx ?_;first|(refine zq.ans (zk.rH zx rfl rfl rfl) ?_))|(refine zy 27 ?_;first|(refine zq.ans (zk.ze rfl rfl rfl (jO) (q9 _ _ _ _)) ?_)))|(refine zH ?_;first|(refine WL.seq ?_)|(refine WL.region (by kernel_rfl) ?_)|(refine WL.block ?_)|(refine WL.skip ?_)|(refine WL.ret ?_)|(refine zu ?_;first|(refine WL.qb rfl ?_)|(refine WL.qQ rfl ?_)|(refine WL.cond rfl (fun h=>?_) (fun h=>?_))))|(refine zw ?_)|(refine zZ ?_)|(refine zB ?_)|(refine zh.r1 (r := .tmp 2) (.inl rfl) (zn.tmp rfl) ?_)|(refine zX.mk ?_)
   all_goals generalize xs.length=nk at *
   all_goals generalize ys.length=ns at *
   all_goals first|(have hv:qR v=false:=jK (by assumption);simp [V.forget,zR,hv];done)|(have hv:qR v=false:=kD (by assumption);simp [V.forget,zR,hv];done)|(simp_all [V.forget,zR,qU,qR,jw];done)|(simp_all [V.forget,zR,qU,qR,jw];omega)|(rw [V.forget,V.bool.injEq,Bool.eq_iff_iff];simp_all [zR,qU,qR,jw];omega) | trace_state
 by_cases k8:k=8
 · subst k8
   refine zi.pure Tryz.func109 rfl (by kernel_rfl) (by simp) ?_
   repeat' first|(refine zf ?_;first|(refine zq.nil ?_)|(refine kG ?_;first|(refine zq.gT rfl rfl rfl ?_)|(refine zq.gF rfl rfl rfl ?_)|(refine zq.gU rfl rfl ?_)|(refine zq.gC rfl rfl rfl (fun h=>?_) (fun h=>?_)))|(refine zq.ev zx rfl ?_)|(refine qW ?_;refine zq.box rfl rfl rfl rfl ?_)|(refine zo ?_;first|(refine zq.ans (zk.zm zx rfl rfl rfl rfl) ?_))|(refine qx ?_;first|(refine zq.ans (zk.rH zx rfl rfl rfl) ?_))|(refine zy 27 ?_;first|(refine zq.ans (zk.ze rfl rfl rfl (jO) (q9 _ _ _ _)) ?_)))|(refine zH ?_;first|(refine WL.seq ?_)|(refine WL.region (by kernel_rfl) ?_)|(refine WL.block ?_)|(refine WL.skip ?_)|(refine WL.ret ?_)|(refine zu ?_;first|(refine WL.qb rfl ?_)|(refine WL.qQ rfl ?_)|(refine WL.cond rfl (fun h=>?_) (fun h=>?_))))|(refine zw ?_)|(refine zZ ?_)|(refine zB ?_)|(refine zh.r1 (r := .tmp 2) (.inl rfl) (zn.tmp rfl) ?_)|(refine zX.mk ?_)
   all_goals generalize xs.length=nk at *
   all_goals generalize ys.length=ns at *
   all_goals first|(have hv:qR v=false:=jK (by assumption);simp [V.forget,zR,hv];done)|(have hv:qR v=false:=kD (by assumption);simp [V.forget,zR,hv];done)|(simp_all [V.forget,zR,qU,qR,jw];done)|(simp_all [V.forget,zR,qU,qR,jw];omega)|(rw [V.forget,V.bool.injEq,Bool.eq_iff_iff];simp_all [zR,qU,qR,jw];omega) | trace_state
 by_cases k9:k=9
 · subst k9
   refine zi.pure Tryz.func109 rfl (by kernel_rfl) (by simp) ?_
   repeat' first|(refine zf ?_;first|(refine zq.nil ?_)|(refine kG ?_;first|(refine zq.gT rfl rfl rfl ?_)|(refine zq.gF rfl rfl rfl ?_)|(refine zq.gU rfl rfl ?_)|(refine zq.gC rfl rfl rfl (fun h=>?_) (fun h=>?_)))|(refine zq.ev zx rfl ?_)|(refine qW ?_;refine zq.box rfl rfl rfl rfl ?_)|(refine zo ?_;first|(refine zq.ans (zk.zm zx rfl rfl rfl rfl) ?_))|(refine qx ?_;first|(refine zq.ans (zk.rH zx rfl rfl rfl) ?_))|(refine zy 27 ?_;first|(refine zq.ans (zk.ze rfl rfl rfl (jO) (q9 _ _ _ _)) ?_)))|(refine zH ?_;first|(refine WL.seq ?_)|(refine WL.region (by kernel_rfl) ?_)|(refine WL.block ?_)|(refine WL.skip ?_)|(refine WL.ret ?_)|(refine zu ?_;first|(refine WL.qb rfl ?_)|(refine WL.qQ rfl ?_)|(refine WL.cond rfl (fun h=>?_) (fun h=>?_))))|(refine zw ?_)|(refine zZ ?_)|(refine zB ?_)|(refine zh.r1 (r := .tmp 2) (.inl rfl) (zn.tmp rfl) ?_)|(refine zX.mk ?_)
   all_goals generalize xs.length=nk at *
   all_goals generalize ys.length=ns at *
   all_goals first|(have hv:qR v=false:=jK (by assumption);simp [V.forget,zR,hv];done)|(have hv:qR v=false:=kD (by assumption);simp [V.forget,zR,hv];done)|(simp_all [V.forget,zR,qU,qR,jw];done)|(simp_all [V.forget,zR,qU,qR,jw];omega)|(rw [V.forget,V.bool.injEq,Bool.eq_iff_iff];simp_all [zR,qU,qR,jw];omega) | trace_state
 · skip
   refine zi.pure Tryz.func109 rfl (by kernel_rfl) (by simp) ?_
   repeat' first|(refine zf ?_;first|(refine zq.nil ?_)|(refine kG ?_;first|(refine zq.gT rfl rfl rfl ?_)|(refine zq.gF rfl rfl rfl ?_)|(refine zq.gU rfl rfl ?_)|(refine zq.gD true rfl rfl rfl ?_ ?_;(focus (first|(simp <;> omega))))|(refine zq.gC rfl rfl rfl (fun h=>?_) (fun h=>?_)))|(refine zq.ev zx rfl ?_)|(refine qW ?_;refine zq.box rfl rfl rfl rfl ?_)|(refine zo ?_;first|(refine zq.ans (zk.zm zx rfl rfl rfl rfl) ?_))|(refine qx ?_;first|(refine zq.ans (zk.rH zx rfl rfl rfl) ?_))|(refine zy 27 ?_;first|(refine zq.ans (zk.ze rfl rfl rfl (jO) (q9 _ _ _ _)) ?_)))|(refine zH ?_;first|(refine WL.seq ?_)|(refine WL.region (by kernel_rfl) ?_)|(refine WL.block ?_)|(refine WL.skip ?_)|(refine WL.ret ?_)|(refine zu ?_;first|(refine WL.qb rfl ?_)|(refine WL.qQ rfl ?_)|(refine WL.zY rfl ?_ ?_;(focus (first|(exact decide_eq_false (by assumption)))))|(refine WL.cond rfl (fun h=>?_) (fun h=>?_))))|(refine zw ?_)|(refine zZ ?_)|(refine zQ ?_)|(refine zh.r1 (r := .tmp 2) (.inl rfl) (zn.tmp rfl) ?_)|(refine zX.mk ?_)
   all_goals generalize xs.length=nk at *
   all_goals generalize ys.length=ns at *
   all_goals first|(have hv:qR v=false:=jK (by assumption);simp [V.forget,zR,hv];done)|(have hv:qR v=false:=kD (by assumption);simp [V.forget,zR,hv];done)|(simp_all [V.forget,zR,qU,qR,jw];done)|(simp_all [V.forget,zR,qU,qR,jw];omega)|(rw [V.forget,V.bool.injEq,Bool.eq_iff_iff];simp_all [zR,qU,qR,jw];omega) | trace_state
def kE (a b c d:Bool) (x y z:Int):V := .agg [.bool a,.bool b,.bool c,.bool d,.int .i64 x,.int .i64 y,.int .i64 z]
def jd (k:Int):V := 
 if k=1 then kE false false true false 0 0 0 else if k=2 then kE false false false true 0 0 0 else if k=3 then kE true false false false 1 1 0 else if k=4 then kE true false false false 2 2 0 else if k=5 then kE false true false false 1 1 0 else
 if k=6 then kE false true false false 3 3 0 else if k=7 then kE false true false false 2 9 0 else if k=8 then kE false true false false 1 1 1 else if k=9 then kE false false false false 0 0 1 else kE false false false false 0 0 0
def kY (k op:Int) (v:Val):Bool:=if k=1 then Q5 v else if k=2 then true else if k=3 then decide (op=15) || decide (op=16) else if k=4 then decide (1≤op)&&decide (op≤14) else decide (5≤k)&&decide (k≤9)
theorem Ci (k:Int):(jd k).forget=jd k:=by
 unfold jd
 repeat' split
 all_goals rfl
theorem Kv (k op:Int) (v:Val) (a b:V) (s:S):VCalls Tryz.prog 89 [dU k op false v [120] a b] s (fun r s'=>r = .jY [jd k,.bool (kY k op v)]∧s'=s):=by
 have hL:=fun t=>JW v t
 have hN:=fun t=>j6 [120] t
 rw [show nameOk [120]=true from rfl] at hN
 have hd:(V.jY [jd k,.bool (kY k op v)]).dat=true:=by
   unfold jd kE
   repeat' split
   all_goals simp
 by_cases k1:k=1
 · subst k1
   refine zi.pure Tryz.func89 rfl (by kernel_rfl) hd ?_
   repeat' first|(refine zf ?_;first|(refine zq.nil ?_)|(refine zU ?_;refine zq.qD zx rfl rfl rfl rfl rfl rfl rfl rfl rfl ?_)|(refine zq.ev zx rfl ?_)|(refine qW ?_;refine zq.box rfl rfl rfl rfl ?_)|(refine qj ?_;refine zq.alloc zx rfl rfl rfl rfl ?_)|(refine zo ?_;first|(refine zq.ans (zk.zm zx rfl rfl rfl rfl) ?_))|(refine zy 106 ?_;first|(refine zq.ans (zk.ze rfl rfl rfl (H6) (hL _)) ?_)))|(refine zH ?_;first|(refine WL.seq ?_)|(refine WL.region (by kernel_rfl) ?_)|(refine WL.block ?_)|(refine WL.ret ?_)|(refine zu ?_;first|(refine WL.qb rfl ?_)))|(refine zw ?_)|(refine zZ ?_)|(refine zB ?_)|(refine zh.r2 (r := .cell 2 115) (r' := .tmp 3) (.inl rfl) (zn.cell zx rfl rfl rfl rfl) (zn.tmp rfl) ?_)|(refine zX.mk ?_)
   all_goals first | rfl |(simp_all [jd,kE,kY,V.forget,V.qE];done)|(simp_all [jd,kE,kY,V.forget,V.qE];omega) | trace_state
 by_cases k2:k=2
 · subst k2
   refine zi.pure Tryz.func89 rfl (by kernel_rfl) hd ?_
   repeat' first|(refine zf ?_;first|(refine zq.nil ?_)|(refine kG ?_;first|(refine zq.gT rfl rfl rfl ?_)|(refine zq.gF rfl rfl rfl ?_))|(refine zU ?_;refine zq.qD zx rfl rfl rfl rfl rfl rfl rfl rfl rfl ?_)|(refine zq.ev zx rfl ?_)|(refine qW ?_;refine zq.box rfl rfl rfl rfl ?_)|(refine qj ?_;refine zq.alloc zx rfl rfl rfl rfl ?_)|(refine zo ?_;first|(refine zq.ans (zk.zm zx rfl rfl rfl rfl) ?_))|(refine zy 55 ?_;first|(refine zq.ans (zk.ze rfl rfl rfl (Ja) (hN _)) ?_)))|(refine zH ?_;first|(refine WL.seq ?_)|(refine WL.region (by kernel_rfl) ?_)|(refine WL.block ?_)|(refine WL.ret ?_)|(refine zu ?_;first|(refine WL.qb rfl ?_)|(refine WL.qQ rfl ?_)))|(refine zw ?_)|(refine zZ ?_)|(refine zB ?_)|(refine zh.r2 (r := .cell 2 115) (r' := .tmp 3) (.inl rfl) (zn.cell zx rfl rfl rfl rfl) (zn.tmp rfl) ?_)|(refine zX.mk ?_)
   all_goals first | rfl |(simp_all [jd,kE,kY,V.forget,V.qE];done)|(simp_all [jd,kE,kY,V.forget,V.qE];omega) | trace_state
 by_cases k3:k=3
 · subst k3
   refine zi.pure Tryz.func89 rfl (by kernel_rfl) hd ?_
   repeat' first|(refine zf ?_;first|(refine zq.nil ?_)|(refine zU ?_;refine zq.qD zx rfl rfl rfl rfl rfl rfl rfl rfl rfl ?_)|(refine zq.ev zx rfl ?_)|(refine qW ?_;refine zq.box rfl rfl rfl rfl ?_)|(refine qj ?_;refine zq.alloc zx rfl rfl rfl rfl ?_)|(refine zo ?_;first|(refine zq.ans (zk.zm zx rfl rfl rfl rfl) ?_)))|(refine zH ?_;first|(refine WL.seq ?_)|(refine WL.region (by kernel_rfl) ?_)|(refine WL.drawn (id:=7) [0,1,2,3,4,5,6,7,8,9,10] [9] [[],[],[1],[1,2],[1,2,3],[1,2,3,4],[1,2,3,4,5],[1,2,3,4,5,6],[1,2,3,4,5,6,7],[0,1,2,3,4],[0,1,2,3,4,5,6,7,8,9]] (by kernel_rfl) (by kernel_rfl) ?_)|(refine WL.block ?_)|(refine WL.ret ?_)|(refine zu ?_;first|(refine WL.qb rfl ?_)|(refine WL.qQ rfl ?_)))|(refine vN ?_;first|(refine zA.nil ?_)|(refine zA.fl rfl rfl (.ev zx rfl) ?_)|(refine zA.gF rfl rfl rfl rfl rfl ?_)|(refine zA.gT rfl rfl rfl rfl rfl (.ev zx rfl) ?_)|(refine qo rfl ?_;first|(refine zA.fl rfl rfl (zk.zm zx rfl rfl rfl rfl) ?_)|(refine zA.gT rfl rfl rfl rfl rfl (zk.zm zx rfl rfl rfl rfl) ?_))|(refine zA.gC rfl rfl rfl rfl (fun h=>?_) (fun h=>?_))|(refine zA.iY rfl rfl rfl ?_))|(refine zw ?_)|(refine zZ ?_)|(refine zB ?_)|(refine zh.r2 (r := .cell 2 115) (r' := .tmp 3) (.inl rfl) (zn.cell zx rfl rfl rfl rfl) (zn.tmp rfl) ?_)|(refine zX.mk ?_)|(refine And.intro ?_ ?_)|(exact xR.nil)|(refine xR.cons ?_ ?_)|(refine jG.fl rfl rfl (.ev zx rfl))|(refine jG.gF rfl rfl rfl rfl rfl)|(refine jG.gT rfl rfl rfl rfl rfl (.ev zx rfl))|(refine jG.gT rfl rfl rfl rfl rfl (zk.zm zx rfl rfl rfl rfl))
   all_goals first | rfl |(simp_all [jd,kE,kY,V.forget,V.qE];done)|(simp_all [jd,kE,kY,V.forget,V.qE];omega) | trace_state
 by_cases k4:k=4
 · subst k4
   refine zi.pure Tryz.func89 rfl (by kernel_rfl) hd ?_
   repeat' first|(refine zf ?_;first|(refine zq.nil ?_)|(refine zU ?_;refine zq.qD zx rfl rfl rfl rfl rfl rfl rfl rfl rfl ?_)|(refine zq.ev zx rfl ?_)|(refine qW ?_;refine zq.box rfl rfl rfl rfl ?_)|(refine qj ?_;refine zq.alloc zx rfl rfl rfl rfl ?_)|(refine zo ?_;first|(refine zq.ans (zk.zm zx rfl rfl rfl rfl) ?_)))|(refine zH ?_;first|(refine WL.seq ?_)|(refine WL.region (by kernel_rfl) ?_)|(refine WL.drawn (id:=9) [0,1,2,3,4,5,6,7,8,9,10] [9] [[],[],[1],[1,2],[1,2,3],[1,2,3,4],[1,2,3,4,5],[1,2,3,4,5,6],[1,2,3,4,5,6,7],[0,1,2,3,4],[0,1,2,3,4,5,6,7,8,9]] (by kernel_rfl) (by kernel_rfl) ?_)|(refine WL.block ?_)|(refine WL.ret ?_)|(refine zu ?_;first|(refine WL.qb rfl ?_)|(refine WL.qQ rfl ?_)))|(refine vN ?_;first|(refine zA.nil ?_)|(refine zA.fl rfl rfl (.ev zx rfl) ?_)|(refine zA.gF rfl rfl rfl rfl rfl ?_)|(refine zA.gT rfl rfl rfl rfl rfl (.ev zx rfl) ?_)|(refine qo rfl ?_;first|(refine zA.fl rfl rfl (zk.zm zx rfl rfl rfl rfl) ?_)|(refine zA.gT rfl rfl rfl rfl rfl (zk.zm zx rfl rfl rfl rfl) ?_))|(refine zA.gC rfl rfl rfl rfl (fun h=>?_) (fun h=>?_))|(refine zA.iY rfl rfl rfl ?_))|(refine zw ?_)|(refine zZ ?_)|(refine zB ?_)|(refine zh.r2 (r := .cell 2 115) (r' := .tmp 3) (.inl rfl) (zn.cell zx rfl rfl rfl rfl) (zn.tmp rfl) ?_)|(refine zX.mk ?_)|(refine And.intro ?_ ?_)|(exact xR.nil)|(refine xR.cons ?_ ?_)|(refine jG.fl rfl rfl (.ev zx rfl))|(refine jG.gF rfl rfl rfl rfl rfl)|(refine jG.gT rfl rfl rfl rfl rfl (.ev zx rfl))|(refine jG.gT rfl rfl rfl rfl rfl (zk.zm zx rfl rfl rfl rfl))
   all_goals first | rfl |(simp_all [jd,kE,kY,V.forget,V.qE];done)|(simp_all [jd,kE,kY,V.forget,V.qE];omega) | trace_state
 by_cases k5:k=5
 · subst k5
   refine zi.pure Tryz.func89 rfl (by kernel_rfl) hd ?_
   repeat' first|(refine zf ?_;first|(refine zq.nil ?_)|(refine zU ?_;refine zq.qD zx rfl rfl rfl rfl rfl rfl rfl rfl rfl ?_)|(refine zq.ev zx rfl ?_)|(refine qW ?_;refine zq.box rfl rfl rfl rfl ?_)|(refine qj ?_;refine zq.alloc zx rfl rfl rfl rfl ?_)|(refine zo ?_;first|(refine zq.ans (zk.zm zx rfl rfl rfl rfl) ?_)))|(refine zH ?_;first|(refine WL.seq ?_)|(refine WL.region (by kernel_rfl) ?_)|(refine WL.block ?_)|(refine WL.ret ?_)|(refine zu ?_;first|(refine WL.qb rfl ?_)|(refine WL.qQ rfl ?_)))|(refine zw ?_)|(refine zZ ?_)|(refine zB ?_)|(refine zh.r2 (r := .cell 2 115) (r' := .tmp 3) (.inl rfl) (zn.cell zx rfl rfl rfl rfl) (zn.tmp rfl) ?_)|(refine zX.mk ?_)
   all_goals first | rfl |(simp_all [jd,kE,kY,V.forget,V.qE];done)|(simp_all [jd,kE,kY,V.forget,V.qE];omega) | trace_state
 by_cases k6:k=6
 · subst k6
   refine zi.pure Tryz.func89 rfl (by kernel_rfl) hd ?_
   repeat' first|(refine zf ?_;first|(refine zq.nil ?_)|(refine zU ?_;refine zq.qD zx rfl rfl rfl rfl rfl rfl rfl rfl rfl ?_)|(refine zq.ev zx rfl ?_)|(refine qW ?_;refine zq.box rfl rfl rfl rfl ?_)|(refine qj ?_;refine zq.alloc zx rfl rfl rfl rfl ?_)|(refine zo ?_;first|(refine zq.ans (zk.zm zx rfl rfl rfl rfl) ?_)))|(refine zH ?_;first|(refine WL.seq ?_)|(refine WL.region (by kernel_rfl) ?_)|(refine WL.block ?_)|(refine WL.ret ?_)|(refine zu ?_;first|(refine WL.qb rfl ?_)|(refine WL.qQ rfl ?_)))|(refine zw ?_)|(refine zZ ?_)|(refine zB ?_)|(refine zh.r2 (r := .cell 2 115) (r' := .tmp 3) (.inl rfl) (zn.cell zx rfl rfl rfl rfl) (zn.tmp rfl) ?_)|(refine zX.mk ?_)
   all_goals first | rfl |(simp_all [jd,kE,kY,V.forget,V.qE];done)|(simp_all [jd,kE,kY,V.forget,V.qE];omega) | trace_state
 by_cases k7:k=7
 · subst k7
   refine zi.pure Tryz.func89 rfl (by kernel_rfl) hd ?_
   repeat' first|(refine zf ?_;first|(refine zq.nil ?_)|(refine zU ?_;refine zq.qD zx rfl rfl rfl rfl rfl rfl rfl rfl rfl ?_)|(refine zq.ev zx rfl ?_)|(refine qW ?_;refine zq.box rfl rfl rfl rfl ?_)|(refine qj ?_;refine zq.alloc zx rfl rfl rfl rfl ?_)|(refine zo ?_;first|(refine zq.ans (zk.zm zx rfl rfl rfl rfl) ?_)))|(refine zH ?_;first|(refine WL.seq ?_)|(refine WL.region (by kernel_rfl) ?_)|(refine WL.block ?_)|(refine WL.ret ?_)|(refine zu ?_;first|(refine WL.qb rfl ?_)|(refine WL.qQ rfl ?_)))|(refine zw ?_)|(refine zZ ?_)|(refine zB ?_)|(refine zh.r2 (r := .cell 2 115) (r' := .tmp 3) (.inl rfl) (zn.cell zx rfl rfl rfl rfl) (zn.tmp rfl) ?_)|(refine zX.mk ?_)
   all_goals first | rfl |(simp_all [jd,kE,kY,V.forget,V.qE];done)|(simp_all [jd,kE,kY,V.forget,V.qE];omega) | trace_state
 by_cases k8:k=8
 · subst k8
   refine zi.pure Tryz.func89 rfl (by kernel_rfl) hd ?_
   repeat' first|(refine zf ?_;first|(refine zq.nil ?_)|(refine zU ?_;refine zq.qD zx rfl rfl rfl rfl rfl rfl rfl rfl rfl ?_)|(refine zq.ev zx rfl ?_)|(refine qW ?_;refine zq.box rfl rfl rfl rfl ?_)|(refine qj ?_;refine zq.alloc zx rfl rfl rfl rfl ?_)|(refine zo ?_;first|(refine zq.ans (zk.zm zx rfl rfl rfl rfl) ?_)))|(refine zH ?_;first|(refine WL.seq ?_)|(refine WL.region (by kernel_rfl) ?_)|(refine WL.block ?_)|(refine WL.ret ?_)|(refine zu ?_;first|(refine WL.qb rfl ?_)|(refine WL.qQ rfl ?_)))|(refine zw ?_)|(refine zZ ?_)|(refine zB ?_)|(refine zh.r2 (r := .cell 2 115) (r' := .tmp 3) (.inl rfl) (zn.cell zx rfl rfl rfl rfl) (zn.tmp rfl) ?_)|(refine zX.mk ?_)
   all_goals first | rfl |(simp_all [jd,kE,kY,V.forget,V.qE];done)|(simp_all [jd,kE,kY,V.forget,V.qE];omega) | trace_state
 by_cases k9:k=9
 · subst k9
   refine zi.pure Tryz.func89 rfl (by kernel_rfl) hd ?_
   repeat' first|(refine zf ?_;first|(refine zq.nil ?_)|(refine zU ?_;refine zq.qD zx rfl rfl rfl rfl rfl rfl rfl rfl rfl ?_)|(refine zq.ev zx rfl ?_)|(refine qW ?_;refine zq.box rfl rfl rfl rfl ?_)|(refine qj ?_;refine zq.alloc zx rfl rfl rfl rfl ?_)|(refine zo ?_;first|(refine zq.ans (zk.zm zx rfl rfl rfl rfl) ?_)))|(refine zH ?_;first|(refine WL.seq ?_)|(refine WL.region (by kernel_rfl) ?_)|(refine WL.block ?_)|(refine WL.ret ?_)|(refine zu ?_;first|(refine WL.qb rfl ?_)|(refine WL.qQ rfl ?_)))|(refine zw ?_)|(refine zZ ?_)|(refine zB ?_)|(refine zh.r2 (r := .cell 2 115) (r' := .tmp 3) (.inl rfl) (zn.cell zx rfl rfl rfl rfl) (zn.tmp rfl) ?_)|(refine zX.mk ?_)
   all_goals first | rfl |(simp_all [jd,kE,kY,V.forget,V.qE];done)|(simp_all [jd,kE,kY,V.forget,V.qE];omega) | trace_state
 · refine zi.pure Tryz.func89 rfl (by kernel_rfl) hd ?_
   repeat' first|(refine zf ?_;first|(refine zq.nil ?_)|(refine zU ?_;refine zq.qD zx rfl rfl rfl rfl rfl rfl rfl rfl rfl ?_)|(refine zq.ev zx rfl ?_)|(refine qW ?_;refine zq.box rfl rfl rfl rfl ?_)|(refine qj ?_;refine zq.alloc zx rfl rfl rfl rfl ?_)|(refine zo ?_;first|(refine zq.ans (zk.zm zx rfl rfl rfl rfl) ?_)))|(refine zH ?_;first|(refine WL.seq ?_)|(refine WL.region (by kernel_rfl) ?_)|(refine WL.block ?_)|(refine WL.skip ?_)|(refine WL.ret ?_)|(refine zu ?_;first|(refine WL.zY rfl ?_ ?_;(focus (first|(exact decide_eq_false (by assumption)))))))|(refine zw ?_)|(refine zQ ?_)|(refine zh.r2 (r := .cell 2 115) (r' := .tmp 3) (.inl rfl) (zn.cell zx rfl rfl rfl rfl) (zn.tmp rfl) ?_)|(refine zX.mk ?_)
   all_goals first|(simp_all [jd,kE,kY,V.forget,V.qE];done)|(simp_all [jd,kE,kY,V.forget,V.qE];omega) | trace_state
end Go.Proofs.YtolhegocbkckdaaGreat
