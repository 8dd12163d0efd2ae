/-
 The bounds of plans, of the program and of the reference. Own work; no condition.
-/
import Derived.Test.YtolhegocbkckdaaGreatDTyA2
import Derived.Test.YtolhegocbkckdaaGreatMg42
namespace Go.Proofs.YtolhegocbkckdaaGreat
open Go
set_option linter.unusedSimpArgs false
set_option linter.unusedVariables false
theorem oQ (xs:List (List PE)) (p:List PE→Bool) (g:FuncId) (caps:List V) (hxs:xs.length≤16777216) (s:S) (hg:zW Tryz.prog g) (hcd:V.zO s.next caps=true)
   (hp:∀ x∈xs,∀ ys,VCalls Tryz.prog g (PE.vS x::caps) (s.ext ys) (fun v s'=>v = .bool (p x)∧s'=s.ext ys)) :
   VCalls Tryz.prog 86 [.sl 0 (xs.map PE.vS),.fn g caps] s (fun v s'=>v = .int .i64 (vQ p xs 0)∧s'=s):=by
 refine zi.pure Tryz.func86 rfl (by kernel_rfl) (by simp) ?_
 repeat' first|(refine zf ?_;first|(refine zq.nil ?_)|(refine zq.ev zx rfl ?_)|(refine qx ?_;first|(refine zq.ans (zk.z8 zx rfl rfl rfl) ?_)))|(refine zH ?_;first|(refine WL.seq ?_)|(refine WL.region (by kernel_rfl) ?_)|(refine WL.block ?_))|(refine zw ?_)
 refine WL.xK (fun i:Nat=>xs.length - i) (fun i=>[(0,.sl 0 (xs.map PE.vS)),(1,.fn g caps),(7,.int .i64 xs.length),(8,.int .i64 (i:Int))]) (fun i=>[])
   (fun i=>i≤xs.length∧vQ p xs 0=vQ p (xs.drop i) i) 0 0 ⟨by simp,rfl⟩ (fun _=>rfl) ⟨rfl,rfl,rfl,rfl,trivial⟩ rfl (fun i hi=>?_) (fun i hi=>?_)
 · simp [qF,qG,Own.under,V.under,V.zO,hcd]
 obtain ⟨hi,hc⟩:=hi
 rcases Nat.lt_or_ge i xs.length with hlt | hge
 · rw [wM hlt] at hc
   have hE:=fun ys=>hp xs[i] (List.getElem_mem hlt) ys
   have hga:(xs.map PE.vS)[i]?=some (PE.vS xs[i]):=by simp [hlt]
   cases hpx:p xs[i]
   all_goals rw [hpx] at hE hc
   · generalize xs[i] = y at hga hE
     repeat' first|(refine zf ?_;first|(refine zq.nil ?_)|(refine zq.ev zx rfl ?_)|(refine xk ?_;first|(refine zq.ans (zk.add rfl rfl ?_) ?_;(focus (constructor <;> omega))))|(refine xw ?_;first|(refine zq.ans (zk.idx zx rfl rfl rfl rfl rfl hga rfl rfl) ?_))|(refine dw ?_;first|(refine zq.ans (zk.ze rfl rfl rfl (hg) (hE _)) ?_)))|(refine zH ?_;first|(refine WL.seq ?_)|(refine WL.region (by kernel_rfl) ?_)|(refine WL.block ?_)|(refine WL.skip ?_)|(refine zu ?_;first|(refine WL.qQ rfl ?_)|(refine WL.zJ rfl ?_ ?_;(focus (first|(simp only [decide_eq_true_eq,decide_eq_false_iff_not,Bool.not_eq_true',Bool.not_eq_false',Int.ofNat_lt,Int.ofNat_le,Int.ofNat_inj,not_true_eq_false,not_false_eq_true];omega))))))|(refine zw ?_)|(refine zQ ?_)
     all_goals
       refine qB.of (i+1) ?_ ?_ ?_ ?_
       · first | omega |(refine ⟨?_,?_⟩;(focus (first | omega |(simp;omega)));(first | omega |(simp_all [hc] <;> fail)|(simp_all [hc];omega)))|(simp_all [hc] <;> fail)|(simp_all [hc];omega)
       · first | omega |(simp;omega) | simp_all
       · repeat' first
           | exact qz.nil
           |(refine qz.mk rfl ?_ ?_)
           | rfl
           |(simp [hc] <;> fail)
           |(simp [hc];omega)
       · first | rfl |(simp [hc] <;> fail)|(simp [hc];omega)
   · generalize xs[i] = y at hga hE
     repeat' first|(refine zf ?_;first|(refine zq.nil ?_)|(refine zq.ev zx rfl ?_)|(refine xw ?_;first|(refine zq.ans (zk.idx zx rfl rfl rfl rfl rfl hga rfl rfl) ?_))|(refine dw ?_;first|(refine zq.ans (zk.ze rfl rfl rfl (hg) (hE _)) ?_)))|(refine zH ?_;first|(refine WL.seq ?_)|(refine WL.region (by kernel_rfl) ?_)|(refine WL.block ?_)|(refine WL.skip ?_)|(refine WL.ret ?_)|(refine zu ?_;first|(refine WL.qb rfl ?_)|(refine WL.zJ rfl ?_ ?_;(focus (first|(simp only [decide_eq_true_eq,decide_eq_false_iff_not,Bool.not_eq_true',Bool.not_eq_false',Int.ofNat_lt,Int.ofNat_le,Int.ofNat_inj,not_true_eq_false,not_false_eq_true];omega))))))|(refine zw ?_)|(refine zZ ?_)|(refine zB ?_)|(refine qH ?_)|(refine zh.r1 (r := .tmp 4) (.inl rfl) (zn.tmp rfl) ?_)|(refine zX.mk ?_)
     simp_all
 · rw [yR hge] at hc
   repeat' first|(refine zf ?_;first|(refine zq.nil ?_)|(refine zq.ev zx rfl ?_))|(refine zH ?_;first|(refine WL.seq ?_)|(refine WL.region (by kernel_rfl) ?_)|(refine WL.exit ?_)|(refine WL.ret ?_)|(refine zu ?_;first|(refine WL.zY rfl ?_ ?_;(focus (first|(simp only [decide_eq_true_eq,decide_eq_false_iff_not,Bool.not_eq_true',Bool.not_eq_false',Int.ofNat_lt,Int.ofNat_le,Int.ofNat_inj,not_true_eq_false,not_false_eq_true];omega))))))|(refine zw ?_)|(refine zC ?_)|(refine zV ?_)|(refine zL ?_)|(refine zh.r1 (r := .tmp 4) (.inl rfl) (zn.tmp rfl) ?_)|(refine zX.mk ?_)
   simp [hc]
theorem gP (xs:List (List PE)) (p:List PE→Bool) (g:FuncId) (caps:List V) (hxs:xs.length≤16777216) (s:S) (hg:zW Tryz.prog g) (hcd:V.zO s.next caps=true)
   (hp:∀ x∈xs,∀ ys,VCalls Tryz.prog g (PE.vS x::caps) (s.ext ys) (fun v s'=>v = .bool (p x)∧s'=s.ext ys)) :
   VCalls Tryz.prog 51 [.sl 0 (xs.map PE.vS),.fn g caps] s (fun v s'=>v = .bool (xs.any p)∧s'=s):=by
 have hp2:∀ x∈xs,∀ zs ys,VCalls Tryz.prog g (PE.vS x::caps) ((s.ext zs).ext ys) (fun v s'=>v = .bool (p x)∧s'=(s.ext zs).ext ys):=fun x hx zs ys=>by rw [iQ];exact hp x hx _
 rw [← eB xs 0 (by omega)]
 refine zi.pure Tryz.func51 rfl (by kernel_rfl) (by simp) ?_
 repeat' first|(refine zf ?_;first|(refine zq.nil ?_)|(refine zq.ev zx rfl ?_)|(refine zy 86 ?_;first|(refine zq.ans (zk.ze rfl rfl rfl (Oi) (oQ _ p _ _ hxs _ hg ?_ ?_)) ?_;(focus (exact hcd));(focus (exact fun x hx ys=>hp2 x hx _ ys)))))|(refine zH ?_;first|(refine WL.seq ?_)|(refine WL.region (by kernel_rfl) ?_)|(refine WL.ret ?_))|(refine zw ?_)|(refine zh.r1 (r := .tmp 4) (.inl rfl) (zn.tmp rfl) ?_)|(refine zX.mk ?_)
 rfl
theorem oK (xs:List (List UInt8)) (p:List UInt8→Bool) (g:FuncId) (caps:List V) (hxs:xs.length≤16777216) (s:S) (hg:zW Tryz.prog g) (hcd:V.zO s.next caps=true)
   (hp:∀ x∈xs,∀ ys,VCalls Tryz.prog g (sV x::caps) (s.ext ys) (fun v s'=>v = .bool (p x)∧s'=s.ext ys)) :
   VCalls Tryz.prog 87 [.sl 0 (xs.map sV),.fn g caps] s (fun v s'=>v = .int .i64 (vQ p xs 0)∧s'=s):=by
 refine zi.pure Tryz.func87 rfl (by kernel_rfl) (by simp) ?_
 repeat' first|(refine zf ?_;first|(refine zq.nil ?_)|(refine zq.ev zx rfl ?_)|(refine qx ?_;first|(refine zq.ans (zk.z8 zx rfl rfl rfl) ?_)))|(refine zH ?_;first|(refine WL.seq ?_)|(refine WL.region (by kernel_rfl) ?_)|(refine WL.block ?_))|(refine zw ?_)
 refine WL.xK (fun i:Nat=>xs.length - i) (fun i=>[(0,.sl 0 (xs.map sV)),(1,.fn g caps),(7,.int .i64 xs.length),(8,.int .i64 (i:Int))]) (fun i=>[])
   (fun i=>i≤xs.length∧vQ p xs 0=vQ p (xs.drop i) i) 0 0 ⟨by simp,rfl⟩ (fun _=>rfl) ⟨rfl,rfl,rfl,rfl,trivial⟩ rfl (fun i hi=>?_) (fun i hi=>?_)
 · simp [qF,qG,Own.under,V.under,V.zO,hcd]
 obtain ⟨hi,hc⟩:=hi
 rcases Nat.lt_or_ge i xs.length with hlt | hge
 · rw [wM hlt] at hc
   have hE:=fun ys=>hp xs[i] (List.getElem_mem hlt) ys
   have hga:(xs.map sV)[i]?=some (sV xs[i]):=by simp [hlt]
   cases hpx:p xs[i]
   all_goals rw [hpx] at hE hc
   · generalize xs[i] = y at hga hE
     repeat' first|(refine zf ?_;first|(refine zq.nil ?_)|(refine zq.ev zx rfl ?_)|(refine xk ?_;first|(refine zq.ans (zk.add rfl rfl ?_) ?_;(focus (constructor <;> omega))))|(refine xw ?_;first|(refine zq.ans (zk.idx zx rfl rfl rfl rfl rfl hga rfl rfl) ?_))|(refine dw ?_;first|(refine zq.ans (zk.ze rfl rfl rfl (hg) (hE _)) ?_)))|(refine zH ?_;first|(refine WL.seq ?_)|(refine WL.region (by kernel_rfl) ?_)|(refine WL.block ?_)|(refine WL.skip ?_)|(refine zu ?_;first|(refine WL.qQ rfl ?_)|(refine WL.zJ rfl ?_ ?_;(focus (first|(simp only [decide_eq_true_eq,decide_eq_false_iff_not,Bool.not_eq_true',Bool.not_eq_false',Int.ofNat_lt,Int.ofNat_le,Int.ofNat_inj,not_true_eq_false,not_false_eq_true];omega))))))|(refine zw ?_)|(refine zQ ?_)
     all_goals
       refine qB.of (i+1) ?_ ?_ ?_ ?_
       · first | omega |(refine ⟨?_,?_⟩;(focus (first | omega |(simp;omega)));(first | omega |(simp_all [hc] <;> fail)|(simp_all [hc];omega)))|(simp_all [hc] <;> fail)|(simp_all [hc];omega)
       · first | omega |(simp;omega) | simp_all
       · repeat' first
           | exact qz.nil
           |(refine qz.mk rfl ?_ ?_)
           | rfl
           |(simp [hc] <;> fail)
           |(simp [hc];omega)
       · first | rfl |(simp [hc] <;> fail)|(simp [hc];omega)
   · generalize xs[i] = y at hga hE
     repeat' first|(refine zf ?_;first|(refine zq.nil ?_)|(refine zq.ev zx rfl ?_)|(refine xw ?_;first|(refine zq.ans (zk.idx zx rfl rfl rfl rfl rfl hga rfl rfl) ?_))|(refine dw ?_;first|(refine zq.ans (zk.ze rfl rfl rfl (hg) (hE _)) ?_)))|(refine zH ?_;first|(refine WL.seq ?_)|(refine WL.region (by kernel_rfl) ?_)|(refine WL.block ?_)|(refine WL.skip ?_)|(refine WL.ret ?_)|(refine zu ?_;first|(refine WL.qb rfl ?_)|(refine WL.zJ rfl ?_ ?_;(focus (first|(simp only [decide_eq_true_eq,decide_eq_false_iff_not,Bool.not_eq_true',Bool.not_eq_false',Int.ofNat_lt,Int.ofNat_le,Int.ofNat_inj,not_true_eq_false,not_false_eq_true];omega))))))|(refine zw ?_)|(refine zZ ?_)|(refine zB ?_)|(refine qH ?_)|(refine zh.r1 (r := .tmp 4) (.inl rfl) (zn.tmp rfl) ?_)|(refine zX.mk ?_)
     simp_all
 · rw [yR hge] at hc
   repeat' first|(refine zf ?_;first|(refine zq.nil ?_)|(refine zq.ev zx rfl ?_))|(refine zH ?_;first|(refine WL.seq ?_)|(refine WL.region (by kernel_rfl) ?_)|(refine WL.exit ?_)|(refine WL.ret ?_)|(refine zu ?_;first|(refine WL.zY rfl ?_ ?_;(focus (first|(simp only [decide_eq_true_eq,decide_eq_false_iff_not,Bool.not_eq_true',Bool.not_eq_false',Int.ofNat_lt,Int.ofNat_le,Int.ofNat_inj,not_true_eq_false,not_false_eq_true];omega))))))|(refine zw ?_)|(refine zC ?_)|(refine zV ?_)|(refine zL ?_)|(refine zh.r1 (r := .tmp 4) (.inl rfl) (zn.tmp rfl) ?_)|(refine zX.mk ?_)
   simp [hc]
theorem iq (xs:List (List UInt8)) (p:List UInt8→Bool) (g:FuncId) (caps:List V) (hxs:xs.length≤16777216) (s:S) (hg:zW Tryz.prog g) (hcd:V.zO s.next caps=true)
   (hp:∀ x∈xs,∀ ys,VCalls Tryz.prog g (sV x::caps) (s.ext ys) (fun v s'=>v = .bool (p x)∧s'=s.ext ys)) :
   VCalls Tryz.prog 53 [.sl 0 (xs.map sV),.fn g caps] s (fun v s'=>v = .bool (xs.any p)∧s'=s):=by
 have hp2:∀ x∈xs,∀ zs ys,VCalls Tryz.prog g (sV x::caps) ((s.ext zs).ext ys) (fun v s'=>v = .bool (p x)∧s'=(s.ext zs).ext ys):=fun x hx zs ys=>by rw [iQ];exact hp x hx _
 rw [← eB xs 0 (by omega)]
 refine zi.pure Tryz.func53 rfl (by kernel_rfl) (by simp) ?_
 repeat' first|(refine zf ?_;first|(refine zq.nil ?_)|(refine zq.ev zx rfl ?_)|(refine zy 87 ?_;first|(refine zq.ans (zk.ze rfl rfl rfl (Ol) (oK _ p _ _ hxs _ hg ?_ ?_)) ?_;(focus (exact hcd));(focus (exact fun x hx ys=>hp2 x hx _ ys)))))|(refine zH ?_;first|(refine WL.seq ?_)|(refine WL.region (by kernel_rfl) ?_)|(refine WL.ret ?_))|(refine zw ?_)|(refine zh.r1 (r := .tmp 4) (.inl rfl) (zn.tmp rfl) ?_)|(refine zX.mk ?_)
 rfl
theorem mE (x:List PE) (s:S):VCalls Tryz.prog 52 [PE.vS x] s (fun v s'=>v = .bool (!decide (x.length≤1))∧s'=s):=by
 refine zi.pure Tryz.func52 rfl (by kernel_rfl) (by simp) ?_
 repeat' first|(refine zf ?_;first|(refine zq.nil ?_)|(refine zq.ev zx rfl ?_)|(refine qx ?_;first|(refine zq.ans (zk.z8 zx rfl rfl rfl) ?_)))|(refine zH ?_;first|(refine WL.seq ?_)|(refine WL.region (by kernel_rfl) ?_)|(refine WL.ret ?_))|(refine zw ?_)|(refine zh.r1 (r := .tmp 2) (.inl rfl) (zn.tmp rfl) ?_)|(refine zX.mk ?_)
 by_cases h:x.length≤1 <;> simp [h] <;> omega
theorem mF (x:List UInt8) (s:S):VCalls Tryz.prog 54 [.str x] s (fun v s'=>v = .bool (!nameOk x)∧s'=s):=by
 refine zi.pure Tryz.func54 rfl (by kernel_rfl) (by simp) ?_
 repeat' first|(refine zf ?_;first|(refine zq.nil ?_)|(refine zq.ev zx rfl ?_)|(refine zy 55 ?_;first|(refine zq.ans (zk.ze rfl rfl rfl (Ja) (j6 _ _)) ?_)))|(refine zH ?_;first|(refine WL.seq ?_)|(refine WL.region (by kernel_rfl) ?_)|(refine WL.ret ?_))|(refine zw ?_)|(refine zh.r1 (r := .tmp 2) (.inl rfl) (zn.tmp rfl) ?_)|(refine zX.mk ?_)
 rfl
abbrev PL.Dt (p:PL):Prop:=1≤p.tables.length∧p.tables.length≤3∧p.on.length=p.tables.length∧(p.on.headD []).length=0∧p.xO.length≤1∧p.order.length≤12∧1≤p.items.length∧p.items.length≤12∧p.names.length=p.items.length ∧ -1≤p.limit
theorem PL.Ye {p:PL} (h:¬ p.Dt):p.form=false:=by
 unfold PL.form
 rw [decide_eq_false h];rfl
theorem PL.JY {p:PL} (h:p.Dt):p.form=(p.on.all (fun l=>decide (l.length≤1))&&p.names.all nameOk):=by
 unfold PL.form
 rw [decide_eq_true h];rfl
set_option maxHeartbeats 4000000 in
theorem oJ (p:PL) (hw:qV p.v≤1048576) (s:S):VCalls Tryz.prog 20 [p.v] s (fun v s'=>v = .bool p.form∧s'=s):=by
 have EL:=PL.QT p
 have hnl:p.names.length≤16777216:=by
   have e:=PL.qC p
   have:=xW sV p.names
   omega
 have hno:¬ (1≤p.tables.length∧p.tables.length≤3∧p.on.length=p.tables.length∧(p.on.headD []).length=0∧p.xO.length≤1∧p.order.length≤12∧1≤p.items.length∧p.items.length≤12∧p.names.length=p.items.length ∧ -1≤p.limit)→p.form=false:=fun h=>PL.Ye h
 by_cases c0:(1:Int)≤p.tables.length
 case neg =>
   have hno:=hno (by omega)
   refine zi.pure Tryz.func20 rfl (by kernel_rfl) (by simp) ?_
   repeat' first|(refine zf ?_;first|(refine zq.nil ?_)|(refine kG ?_;first|(refine zq.gF rfl rfl rfl ?_)|(refine zq.gD true rfl rfl rfl ?_ ?_;(focus (first|(simp only [decide_eq_true_eq,decide_eq_false_iff_not,Bool.not_eq_true',Bool.not_eq_false',Int.ofNat_lt,Int.ofNat_le,Int.ofNat_inj,not_true_eq_false,not_false_eq_true];omega)))))|(refine zq.ev zx rfl ?_)|(refine qW ?_;refine zq.box rfl rfl rfl rfl ?_)|(refine zo ?_;first|(refine zq.ans (zk.zm zx rfl rfl rfl rfl) ?_))|(refine qx ?_;first|(refine zq.ans (zk.z8 zx rfl rfl rfl) ?_)))|(refine zH ?_;first|(refine WL.seq ?_)|(refine WL.region (by kernel_rfl) ?_)|(refine WL.ret ?_)|(refine zu ?_;first|(refine WL.qb rfl ?_)))|(refine zw ?_)|(refine zZ ?_)|(refine zh.r1 (r := .tmp 2) (.inl rfl) (zn.tmp rfl) ?_)|(refine zX.mk ?_)
   all_goals first|(rw [hno];rfl) | trace_state
 by_cases c1:(p.tables.length:Int)≤3
 case neg =>
   have hno:=hno (by omega)
   refine zi.pure Tryz.func20 rfl (by kernel_rfl) (by simp) ?_
   repeat' first|(refine zf ?_;first|(refine zq.nil ?_)|(refine kG ?_;first|(refine zq.gT rfl rfl rfl ?_)|(refine zq.gF rfl rfl rfl ?_)|(refine zq.gD true rfl rfl rfl ?_ ?_;(focus (first|(simp only [decide_eq_true_eq,decide_eq_false_iff_not,Bool.not_eq_true',Bool.not_eq_false',Int.ofNat_lt,Int.ofNat_le,Int.ofNat_inj,not_true_eq_false,not_false_eq_true];omega))))|(refine zq.gD false rfl rfl rfl ?_ ?_;(focus (first|(simp only [decide_eq_true_eq,decide_eq_false_iff_not,Bool.not_eq_true',Bool.not_eq_false',Int.ofNat_lt,Int.ofNat_le,Int.ofNat_inj,not_true_eq_false,not_false_eq_true];omega)))))|(refine zq.ev zx rfl ?_)|(refine qW ?_;refine zq.box rfl rfl rfl rfl ?_)|(refine zo ?_;first|(refine zq.ans (zk.zm zx rfl rfl rfl rfl) ?_))|(refine qx ?_;first|(refine zq.ans (zk.z8 zx rfl rfl rfl) ?_)))|(refine zH ?_;first|(refine WL.seq ?_)|(refine WL.region (by kernel_rfl) ?_)|(refine WL.ret ?_)|(refine zu ?_;first|(refine WL.qb rfl ?_)))|(refine zw ?_)|(refine zZ ?_)|(refine zh.r1 (r := .tmp 2) (.inl rfl) (zn.tmp rfl) ?_)|(refine zX.mk ?_)
   all_goals first|(rw [hno];rfl) | trace_state
 by_cases c2:(p.on.length:Int)=p.tables.length
 case neg =>
   have hno:=hno (by omega)
   refine zi.pure Tryz.func20 rfl (by kernel_rfl) (by simp) ?_
   repeat' first|(refine zf ?_;first|(refine zq.nil ?_)|(refine kG ?_;first|(refine zq.gT rfl rfl rfl ?_)|(refine zq.gF rfl rfl rfl ?_)|(refine zq.gD true rfl rfl rfl ?_ ?_;(focus (first|(simp only [decide_eq_true_eq,decide_eq_false_iff_not,Bool.not_eq_true',Bool.not_eq_false',Int.ofNat_lt,Int.ofNat_le,Int.ofNat_inj,not_true_eq_false,not_false_eq_true];omega))))|(refine zq.gD false rfl rfl rfl ?_ ?_;(focus (first|(simp only [decide_eq_true_eq,decide_eq_false_iff_not,Bool.not_eq_true',Bool.not_eq_false',Int.ofNat_lt,Int.ofNat_le,Int.ofNat_inj,not_true_eq_false,not_false_eq_true];omega)))))|(refine zq.ev zx rfl ?_)|(refine qW ?_;refine zq.box rfl rfl rfl rfl ?_)|(refine zo ?_;first|(refine zq.ans (zk.zm zx rfl rfl rfl rfl) ?_))|(refine qx ?_;first|(refine zq.ans (zk.z8 zx rfl rfl rfl) ?_)))|(refine zH ?_;first|(refine WL.seq ?_)|(refine WL.region (by kernel_rfl) ?_)|(refine WL.ret ?_)|(refine zu ?_;first|(refine WL.qb rfl ?_)))|(refine zw ?_)|(refine zZ ?_)|(refine zh.r1 (r := .tmp 2) (.inl rfl) (zn.tmp rfl) ?_)|(refine zX.mk ?_)
   all_goals first|(rw [hno];rfl) | trace_state
 obtain ⟨o0,on',hon⟩:∃ o0 on',p.on=o0::on':=by
   cases h:p.on with
   | nil=>rw [h] at c2;simp at c2;omega
   | cons a b=>exact ⟨a,b,rfl⟩
 have LC:p.on.headD []=o0:=by rw [hon];rfl
 have hg0:(p.on.map PE.vS)[0]?=some (PE.vS o0):=by rw [hon];rfl
 rw [LC] at hno
 by_cases c3:(o0.length:Int)≤0
 case neg =>
   have hno:=hno (by omega)
   refine zi.pure Tryz.func20 rfl (by kernel_rfl) (by simp) ?_
   repeat' first|(refine zf ?_;first|(refine zq.nil ?_)|(refine kG ?_;first|(refine zq.gT rfl rfl rfl ?_)|(refine zq.gF rfl rfl rfl ?_)|(refine zq.gD true rfl rfl rfl ?_ ?_;(focus (first|(simp only [decide_eq_true_eq,decide_eq_false_iff_not,Bool.not_eq_true',Bool.not_eq_false',Int.ofNat_lt,Int.ofNat_le,Int.ofNat_inj,not_true_eq_false,not_false_eq_true];omega))))|(refine zq.gD false rfl rfl rfl ?_ ?_;(focus (first|(simp only [decide_eq_true_eq,decide_eq_false_iff_not,Bool.not_eq_true',Bool.not_eq_false',Int.ofNat_lt,Int.ofNat_le,Int.ofNat_inj,not_true_eq_false,not_false_eq_true];omega)))))|(refine zq.ev zx rfl ?_)|(refine qW ?_;refine zq.box rfl rfl rfl rfl ?_)|(refine zo ?_;first|(refine zq.ans (zk.zm zx rfl rfl rfl rfl) ?_))|(refine qx ?_;first|(refine zq.ans (zk.z8 zx rfl rfl rfl) ?_))|(refine xw ?_;first|(refine zq.ans (zk.idx (j:=0) zx rfl rfl rfl rfl rfl hg0 rfl rfl) ?_)))|(refine zH ?_;first|(refine WL.seq ?_)|(refine WL.region (by kernel_rfl) ?_)|(refine WL.ret ?_)|(refine zu ?_;first|(refine WL.qb rfl ?_)))|(refine zw ?_)|(refine zZ ?_)|(refine zh.r1 (r := .tmp 2) (.inl rfl) (zn.tmp rfl) ?_)|(refine zX.mk ?_)
   all_goals first|(rw [hno];rfl) | trace_state
 by_cases c4:(p.xO.length:Int)≤1
 case neg =>
   have hno:=hno (by omega)
   refine zi.pure Tryz.func20 rfl (by kernel_rfl) (by simp) ?_
   repeat' first|(refine zf ?_;first|(refine zq.nil ?_)|(refine kG ?_;first|(refine zq.gT rfl rfl rfl ?_)|(refine zq.gF rfl rfl rfl ?_)|(refine zq.gD true rfl rfl rfl ?_ ?_;(focus (first|(simp only [decide_eq_true_eq,decide_eq_false_iff_not,Bool.not_eq_true',Bool.not_eq_false',Int.ofNat_lt,Int.ofNat_le,Int.ofNat_inj,not_true_eq_false,not_false_eq_true];omega))))|(refine zq.gD false rfl rfl rfl ?_ ?_;(focus (first|(simp only [decide_eq_true_eq,decide_eq_false_iff_not,Bool.not_eq_true',Bool.not_eq_false',Int.ofNat_lt,Int.ofNat_le,Int.ofNat_inj,not_true_eq_false,not_false_eq_true];omega)))))|(refine zq.ev zx rfl ?_)|(refine qW ?_;refine zq.box rfl rfl rfl rfl ?_)|(refine zo ?_;first|(refine zq.ans (zk.zm zx rfl rfl rfl rfl) ?_))|(refine qx ?_;first|(refine zq.ans (zk.z8 zx rfl rfl rfl) ?_))|(refine xw ?_;first|(refine zq.ans (zk.idx (j:=0) zx rfl rfl rfl rfl rfl hg0 rfl rfl) ?_)))|(refine zH ?_;first|(refine WL.seq ?_)|(refine WL.region (by kernel_rfl) ?_)|(refine WL.ret ?_)|(refine zu ?_;first|(refine WL.qb rfl ?_)))|(refine zw ?_)|(refine zZ ?_)|(refine zh.r1 (r := .tmp 2) (.inl rfl) (zn.tmp rfl) ?_)|(refine zX.mk ?_)
   all_goals first|(rw [hno];rfl) | trace_state
 by_cases c5:(p.order.length:Int)≤12
 case neg =>
   have hno:=hno (by omega)
   refine zi.pure Tryz.func20 rfl (by kernel_rfl) (by simp) ?_
   repeat' first|(refine zf ?_;first|(refine zq.nil ?_)|(refine kG ?_;first|(refine zq.gT rfl rfl rfl ?_)|(refine zq.gD false rfl rfl rfl ?_ ?_;(focus (first|(simp only [decide_eq_true_eq,decide_eq_false_iff_not,Bool.not_eq_true',Bool.not_eq_false',Int.ofNat_lt,Int.ofNat_le,Int.ofNat_inj,not_true_eq_false,not_false_eq_true];omega)))))|(refine zq.ev zx rfl ?_)|(refine qW ?_;refine zq.box rfl rfl rfl rfl ?_)|(refine zo ?_;first|(refine zq.ans (zk.zm zx rfl rfl rfl rfl) ?_))|(refine qx ?_;first|(refine zq.ans (zk.z8 zx rfl rfl rfl) ?_))|(refine xw ?_;first|(refine zq.ans (zk.idx (j:=0) zx rfl rfl rfl rfl rfl hg0 rfl rfl) ?_)))|(refine zH ?_;first|(refine WL.seq ?_)|(refine WL.region (by kernel_rfl) ?_)|(refine WL.ret ?_)|(refine zu ?_;first|(refine WL.zJ rfl ?_ ?_;(focus (first|(simp only [decide_eq_true_eq,decide_eq_false_iff_not,Bool.not_eq_true',Bool.not_eq_false',Int.ofNat_lt,Int.ofNat_le,Int.ofNat_inj,not_true_eq_false,not_false_eq_true];omega))))))|(refine zw ?_)|(refine zZ ?_)|(refine zh.r1 (r := .tmp 2) (.inl rfl) (zn.tmp rfl) ?_)|(refine zX.mk ?_)
   all_goals first|(rw [hno];rfl) | trace_state
 by_cases c6:(1:Int)≤p.items.length
 case neg =>
   have hno:=hno (by omega)
   refine zi.pure Tryz.func20 rfl (by kernel_rfl) (by simp) ?_
   repeat' first|(refine zf ?_;first|(refine zq.nil ?_)|(refine kG ?_;first|(refine zq.gT rfl rfl rfl ?_)|(refine zq.gF rfl rfl rfl ?_)|(refine zq.gD false rfl rfl rfl ?_ ?_;(focus (first|(exact decide_eq_false (by assumption))|(simp only [decide_eq_true_eq,decide_eq_false_iff_not,Bool.not_eq_true',Bool.not_eq_false',Int.ofNat_lt,Int.ofNat_le,Int.ofNat_inj,not_true_eq_false,not_false_eq_true];omega)))))|(refine zq.ev zx rfl ?_)|(refine qW ?_;refine zq.box rfl rfl rfl rfl ?_)|(refine zo ?_;first|(refine zq.ans (zk.zm zx rfl rfl rfl rfl) ?_))|(refine qx ?_;first|(refine zq.ans (zk.z8 zx rfl rfl rfl) ?_))|(refine xw ?_;first|(refine zq.ans (zk.idx (j:=0) zx rfl rfl rfl rfl rfl hg0 rfl rfl) ?_)))|(refine zH ?_;first|(refine WL.seq ?_)|(refine WL.region (by kernel_rfl) ?_)|(refine WL.skip ?_)|(refine WL.ret ?_)|(refine zu ?_;first|(refine WL.zY rfl ?_ ?_;(focus (first|(simp only [decide_eq_true_eq,decide_eq_false_iff_not,Bool.not_eq_true',Bool.not_eq_false',Int.ofNat_lt,Int.ofNat_le,Int.ofNat_inj,not_true_eq_false,not_false_eq_true];omega))))))|(refine zw ?_)|(refine zh.r1 (r := .tmp 2) (.inl rfl) (zn.tmp rfl) ?_)|(refine zX.mk ?_)
   all_goals first|(rw [hno];rfl) | trace_state
 by_cases c7:(p.items.length:Int)≤12
 case neg =>
   have hno:=hno (by omega)
   refine zi.pure Tryz.func20 rfl (by kernel_rfl) (by simp) ?_
   repeat' first|(refine zf ?_;first|(refine zq.nil ?_)|(refine kG ?_;first|(refine zq.gT rfl rfl rfl ?_)|(refine zq.gF rfl rfl rfl ?_)|(refine zq.gD true rfl rfl rfl ?_ ?_;(focus (first|(exact decide_eq_true (by assumption)))))|(refine zq.gD false rfl rfl rfl ?_ ?_;(focus (first|(exact decide_eq_false (by assumption))|(simp only [decide_eq_true_eq,decide_eq_false_iff_not,Bool.not_eq_true',Bool.not_eq_false',Int.ofNat_lt,Int.ofNat_le,Int.ofNat_inj,not_true_eq_false,not_false_eq_true];omega)))))|(refine zq.ev zx rfl ?_)|(refine qW ?_;refine zq.box rfl rfl rfl rfl ?_)|(refine zo ?_;first|(refine zq.ans (zk.zm zx rfl rfl rfl rfl) ?_))|(refine qx ?_;first|(refine zq.ans (zk.z8 zx rfl rfl rfl) ?_))|(refine xw ?_;first|(refine zq.ans (zk.idx (j:=0) zx rfl rfl rfl rfl rfl hg0 rfl rfl) ?_)))|(refine zH ?_;first|(refine WL.seq ?_)|(refine WL.region (by kernel_rfl) ?_)|(refine WL.skip ?_)|(refine WL.ret ?_)|(refine zu ?_;first|(refine WL.zY rfl ?_ ?_;(focus (first|(simp only [decide_eq_true_eq,decide_eq_false_iff_not,Bool.not_eq_true',Bool.not_eq_false',Int.ofNat_lt,Int.ofNat_le,Int.ofNat_inj,not_true_eq_false,not_false_eq_true];omega))))))|(refine zw ?_)|(refine zh.r1 (r := .tmp 2) (.inl rfl) (zn.tmp rfl) ?_)|(refine zX.mk ?_)
   all_goals first|(rw [hno];rfl) | trace_state
 by_cases c8:(p.names.length:Int)=p.items.length
 case neg =>
   have hno:=hno (by omega)
   refine zi.pure Tryz.func20 rfl (by kernel_rfl) (by simp) ?_
   repeat' first|(refine zf ?_;first|(refine zq.nil ?_)|(refine kG ?_;first|(refine zq.gT rfl rfl rfl ?_)|(refine zq.gF rfl rfl rfl ?_)|(refine zq.gD true rfl rfl rfl ?_ ?_;(focus (first|(exact decide_eq_true (by assumption)))))|(refine zq.gD false rfl rfl rfl ?_ ?_;(focus (first|(exact decide_eq_false (by assumption))|(simp only [decide_eq_true_eq,decide_eq_false_iff_not,Bool.not_eq_true',Bool.not_eq_false',Int.ofNat_lt,Int.ofNat_le,Int.ofNat_inj,not_true_eq_false,not_false_eq_true];omega)))))|(refine zq.ev zx rfl ?_)|(refine qW ?_;refine zq.box rfl rfl rfl rfl ?_)|(refine zo ?_;first|(refine zq.ans (zk.zm zx rfl rfl rfl rfl) ?_))|(refine qx ?_;first|(refine zq.ans (zk.z8 zx rfl rfl rfl) ?_))|(refine xw ?_;first|(refine zq.ans (zk.idx (j:=0) zx rfl rfl rfl rfl rfl hg0 rfl rfl) ?_)))|(refine zH ?_;first|(refine WL.seq ?_)|(refine WL.region (by kernel_rfl) ?_)|(refine WL.skip ?_)|(refine WL.ret ?_)|(refine zu ?_;first|(refine WL.zY rfl ?_ ?_;(focus (first|(simp only [decide_eq_true_eq,decide_eq_false_iff_not,Bool.not_eq_true',Bool.not_eq_false',Int.ofNat_lt,Int.ofNat_le,Int.ofNat_inj,not_true_eq_false,not_false_eq_true];omega))))))|(refine zw ?_)|(refine zh.r1 (r := .tmp 2) (.inl rfl) (zn.tmp rfl) ?_)|(refine zX.mk ?_)
   all_goals first|(rw [hno];rfl) | trace_state
 by_cases c9 : -1≤p.limit
 case neg =>
   have hno:=hno (by omega)
   refine zi.pure Tryz.func20 rfl (by kernel_rfl) (by simp) ?_
   repeat' first|(refine zf ?_;first|(refine zq.nil ?_)|(refine kG ?_;first|(refine zq.gT rfl rfl rfl ?_)|(refine zq.gF rfl rfl rfl ?_)|(refine zq.gD true rfl rfl rfl ?_ ?_;(focus (first|(exact decide_eq_true (by assumption)))))|(refine zq.gD false rfl rfl rfl ?_ ?_;(focus (first|(exact decide_eq_false (by assumption))|(simp only [decide_eq_true_eq,decide_eq_false_iff_not,Bool.not_eq_true',Bool.not_eq_false',Int.ofNat_lt,Int.ofNat_le,Int.ofNat_inj,not_true_eq_false,not_false_eq_true];omega)))))|(refine zq.ev zx rfl ?_)|(refine qW ?_;refine zq.box rfl rfl rfl rfl ?_)|(refine zo ?_;first|(refine zq.ans (zk.zm zx rfl rfl rfl rfl) ?_))|(refine qx ?_;first|(refine zq.ans (zk.z8 zx rfl rfl rfl) ?_))|(refine xw ?_;first|(refine zq.ans (zk.idx (j:=0) zx rfl rfl rfl rfl rfl hg0 rfl rfl) ?_)))|(refine zH ?_;first|(refine WL.seq ?_)|(refine WL.region (by kernel_rfl) ?_)|(refine WL.skip ?_)|(refine WL.ret ?_)|(refine zu ?_;first|(refine WL.zY rfl ?_ ?_;(focus (first|(simp only [decide_eq_true_eq,decide_eq_false_iff_not,Bool.not_eq_true',Bool.not_eq_false',Int.ofNat_lt,Int.ofNat_le,Int.ofNat_inj,not_true_eq_false,not_false_eq_true];omega))))))|(refine zw ?_)|(refine zh.r1 (r := .tmp 2) (.inl rfl) (zn.tmp rfl) ?_)|(refine zX.mk ?_)
   all_goals first|(rw [hno];rfl) | trace_state
 have hyes:p.form=(p.on.all (fun l=>decide (l.length≤1))&&p.names.all nameOk):=PL.JY ⟨by omega,by omega,by omega,by rw [LC];omega,by omega,by omega,by omega,by omega,by omega,c9⟩
 have hA:=fun t=>gP p.on (fun l => !decide (l.length≤1)) _ [] (by omega) t Ox rfl (fun x _ ys=>mE x _)
 have hB:=fun t=>iq p.names (fun l => !nameOk l) _ [] (by omega) t Ov rfl (fun x _ ys=>mF x _)
 rw [Yd] at hA hB
 generalize p.on.all (fun l=>decide (l.length≤1))=b1 at hA hyes
 generalize p.names.all nameOk=b2 at hB hyes
 cases b1
 all_goals cases b2
 all_goals
   refine zi.pure Tryz.func20 rfl (by kernel_rfl) (by simp) ?_
   repeat' first|(refine zf ?_;first|(refine zq.nil ?_)|(refine kG ?_;first|(refine zq.gT rfl rfl rfl ?_)|(refine zq.gF rfl rfl rfl ?_)|(refine zq.gD true rfl rfl rfl ?_ ?_;(focus (first|(exact decide_eq_true (by assumption)))))|(refine zq.gD false rfl rfl rfl ?_ ?_;(focus (first|(simp only [decide_eq_true_eq,decide_eq_false_iff_not,Bool.not_eq_true',Bool.not_eq_false',Int.ofNat_lt,Int.ofNat_le,Int.ofNat_inj,not_true_eq_false,not_false_eq_true];omega)))))|(refine zq.ev zx rfl ?_)|(refine qW ?_;refine zq.box rfl rfl rfl rfl ?_)|(refine zo ?_;first|(refine zq.ans (zk.zm zx rfl rfl rfl rfl) ?_))|(refine qx ?_;first|(refine zq.ans (zk.z8 zx rfl rfl rfl) ?_))|(refine xw ?_;first|(refine zq.ans (zk.idx (j:=0) zx rfl rfl rfl rfl rfl hg0 rfl rfl) ?_))|(refine zy 51 ?_;first|(refine zq.ans (zk.ze rfl rfl rfl (Oq) (hA _)) ?_))|(refine zy 53 ?_;first|(refine zq.ans (zk.ze rfl rfl rfl (Oj) (hB _)) ?_)))|(refine zH ?_;first|(refine WL.seq ?_)|(refine WL.region (by kernel_rfl) ?_)|(refine WL.skip ?_)|(refine WL.ret ?_)|(refine zu ?_;first|(refine WL.zY rfl ?_ ?_;(focus (first|(simp only [decide_eq_true_eq,decide_eq_false_iff_not,Bool.not_eq_true',Bool.not_eq_false',Int.ofNat_lt,Int.ofNat_le,Int.ofNat_inj,not_true_eq_false,not_false_eq_true];omega))))))|(refine zw ?_)|(refine zh.r1 (r := .tmp 2) (.inl rfl) (zn.tmp rfl) ?_)|(refine zX.mk ?_)
   all_goals first|(rw [hyes];rfl) | trace_state
set_option maxHeartbeats 4000000 in
theorem rR (c:jy) (p:PL) (hc:c.wt≤1048576) (hw:qV p.v≤1048576) (s:S):VCalls Tryz.prog 61 [c.zF,p.v] s (fun v s'=>v = .bool (p.ok c)∧s'=s):=by
 have EL:=PL.QT p
 have hnl:p.names.length≤16777216:=by
   have e:=PL.qC p
   have:=xW sV p.names
   omega
 have hno:¬ (1≤p.tables.length∧p.tables.length≤3∧p.on.length=p.tables.length∧(p.on.headD []).length=0∧p.xO.length≤1∧p.order.length≤12∧1≤p.items.length∧p.items.length≤12∧p.names.length=p.items.length ∧ -1≤p.limit)→p.form=false:=fun h=>PL.Ye h
 have hT:=fun t=>q9 p.tables.length 1 3 t
 have hI:=fun t=>q9 p.items.length 1 12 t
 by_cases c0:((1:Int)≤p.tables.length∧(p.tables.length:Int)≤3)
 case neg =>
   have hno:=hno (by omega)
   rw [show jw p.tables.length 1 3=false by simp only [jw,Bool.and_eq_false_iff,decide_eq_false_iff_not];omega] at hT
   refine zi.pure Tryz.func61 rfl (by kernel_rfl) (by simp) ?_
   repeat' first|(refine zf ?_;first|(refine zq.nil ?_)|(refine kG ?_;first|(refine zq.gF rfl rfl rfl ?_))|(refine zq.ev zx rfl ?_)|(refine qW ?_;refine zq.box rfl rfl rfl rfl ?_)|(refine zo ?_;first|(refine zq.ans (zk.zm zx rfl rfl rfl rfl) ?_))|(refine qx ?_;first|(refine zq.ans (zk.z8 zx rfl rfl rfl) ?_))|(refine zy 27 ?_;first|(refine zq.ans (zk.ze rfl rfl rfl (jO) (hT _)) ?_)))|(refine zH ?_;first|(refine WL.seq ?_)|(refine WL.region (by kernel_rfl) ?_)|(refine WL.ret ?_)|(refine zu ?_;first|(refine WL.qb rfl ?_)))|(refine zw ?_)|(refine zZ ?_)|(refine zh.r1 (r := .tmp 4) (.inl rfl) (zn.tmp rfl) ?_)|(refine zX.mk ?_)
   all_goals first|(simp only [PL.ok];rw [hno];rfl) | trace_state
 rw [show jw p.tables.length 1 3=true by simp only [jw,Bool.and_eq_true,decide_eq_true_eq];omega] at hT
 by_cases c1:(p.on.length:Int)=p.tables.length
 case neg =>
   have hno:=hno (by omega)
   refine zi.pure Tryz.func61 rfl (by kernel_rfl) (by simp) ?_
   repeat' first|(refine zf ?_;first|(refine zq.nil ?_)|(refine kG ?_;first|(refine zq.gT rfl rfl rfl ?_)|(refine zq.gF rfl rfl rfl ?_)|(refine zq.gD true rfl rfl rfl ?_ ?_;(focus (first|(simp only [decide_eq_true_eq,decide_eq_false_iff_not,Bool.not_eq_true',Bool.not_eq_false',Int.ofNat_lt,Int.ofNat_le,Int.ofNat_inj,not_true_eq_false,not_false_eq_true];omega)))))|(refine zq.ev zx rfl ?_)|(refine qW ?_;refine zq.box rfl rfl rfl rfl ?_)|(refine zo ?_;first|(refine zq.ans (zk.zm zx rfl rfl rfl rfl) ?_))|(refine qx ?_;first|(refine zq.ans (zk.z8 zx rfl rfl rfl) ?_))|(refine zy 27 ?_;first|(refine zq.ans (zk.ze rfl rfl rfl (jO) (hT _)) ?_)))|(refine zH ?_;first|(refine WL.seq ?_)|(refine WL.region (by kernel_rfl) ?_)|(refine WL.ret ?_)|(refine zu ?_;first|(refine WL.qb rfl ?_)))|(refine zw ?_)|(refine zZ ?_)|(refine zh.r1 (r := .tmp 4) (.inl rfl) (zn.tmp rfl) ?_)|(refine zX.mk ?_)
   all_goals first|(simp only [PL.ok];rw [hno];rfl) | trace_state
 obtain ⟨o0,on',hon⟩:∃ o0 on',p.on=o0::on':=by
   cases h:p.on with
   | nil=>rw [h] at c1;simp at c1;omega
   | cons a b=>exact ⟨a,b,rfl⟩
 have LC:p.on.headD []=o0:=by rw [hon];rfl
 have hg0:(p.on.map PE.vS)[0]?=some (PE.vS o0):=by rw [hon];rfl
 rw [LC] at hno
 by_cases c2:(o0.length:Int)≤0
 case neg =>
   have hno:=hno (by omega)
   refine zi.pure Tryz.func61 rfl (by kernel_rfl) (by simp) ?_
   repeat' first|(refine zf ?_;first|(refine zq.nil ?_)|(refine kG ?_;first|(refine zq.gT rfl rfl rfl ?_)|(refine zq.gF rfl rfl rfl ?_)|(refine zq.gD true rfl rfl rfl ?_ ?_;(focus (first|(simp only [decide_eq_true_eq,decide_eq_false_iff_not,Bool.not_eq_true',Bool.not_eq_false',Int.ofNat_lt,Int.ofNat_le,Int.ofNat_inj,not_true_eq_false,not_false_eq_true];omega))))|(refine zq.gD false rfl rfl rfl ?_ ?_;(focus (first|(simp only [decide_eq_true_eq,decide_eq_false_iff_not,Bool.not_eq_true',Bool.not_eq_false',Int.ofNat_lt,Int.ofNat_le,Int.ofNat_inj,not_true_eq_false,not_false_eq_true];omega)))))|(refine zq.ev zx rfl ?_)|(refine qW ?_;refine zq.box rfl rfl rfl rfl ?_)|(refine zo ?_;first|(refine zq.ans (zk.zm zx rfl rfl rfl rfl) ?_))|(refine qx ?_;first|(refine zq.ans (zk.z8 zx rfl rfl rfl) ?_))|(refine xw ?_;first|(refine zq.ans (zk.idx (j:=0) zx rfl rfl rfl rfl rfl hg0 rfl rfl) ?_))|(refine zy 27 ?_;first|(refine zq.ans (zk.ze rfl rfl rfl (jO) (hT _)) ?_)))|(refine zH ?_;first|(refine WL.seq ?_)|(refine WL.region (by kernel_rfl) ?_)|(refine WL.ret ?_)|(refine zu ?_;first|(refine WL.qb rfl ?_)))|(refine zw ?_)|(refine zZ ?_)|(refine zh.r1 (r := .tmp 4) (.inl rfl) (zn.tmp rfl) ?_)|(refine zX.mk ?_)
   all_goals first|(simp only [PL.ok];rw [hno];rfl) | trace_state
 by_cases c3:(p.xO.length:Int)≤1
 case neg =>
   have hno:=hno (by omega)
   refine zi.pure Tryz.func61 rfl (by kernel_rfl) (by simp) ?_
   repeat' first|(refine zf ?_;first|(refine zq.nil ?_)|(refine kG ?_;first|(refine zq.gT rfl rfl rfl ?_)|(refine zq.gF rfl rfl rfl ?_)|(refine zq.gD true rfl rfl rfl ?_ ?_;(focus (first|(simp only [decide_eq_true_eq,decide_eq_false_iff_not,Bool.not_eq_true',Bool.not_eq_false',Int.ofNat_lt,Int.ofNat_le,Int.ofNat_inj,not_true_eq_false,not_false_eq_true];omega))))|(refine zq.gD false rfl rfl rfl ?_ ?_;(focus (first|(simp only [decide_eq_true_eq,decide_eq_false_iff_not,Bool.not_eq_true',Bool.not_eq_false',Int.ofNat_lt,Int.ofNat_le,Int.ofNat_inj,not_true_eq_false,not_false_eq_true];omega)))))|(refine zq.ev zx rfl ?_)|(refine qW ?_;refine zq.box rfl rfl rfl rfl ?_)|(refine zo ?_;first|(refine zq.ans (zk.zm zx rfl rfl rfl rfl) ?_))|(refine qx ?_;first|(refine zq.ans (zk.z8 zx rfl rfl rfl) ?_))|(refine xw ?_;first|(refine zq.ans (zk.idx (j:=0) zx rfl rfl rfl rfl rfl hg0 rfl rfl) ?_))|(refine zy 27 ?_;first|(refine zq.ans (zk.ze rfl rfl rfl (jO) (hT _)) ?_)))|(refine zH ?_;first|(refine WL.seq ?_)|(refine WL.region (by kernel_rfl) ?_)|(refine WL.ret ?_)|(refine zu ?_;first|(refine WL.qb rfl ?_)))|(refine zw ?_)|(refine zZ ?_)|(refine zh.r1 (r := .tmp 4) (.inl rfl) (zn.tmp rfl) ?_)|(refine zX.mk ?_)
   all_goals first|(simp only [PL.ok];rw [hno];rfl) | trace_state
 by_cases c4:(p.order.length:Int)≤12
 case neg =>
   have hno:=hno (by omega)
   refine zi.pure Tryz.func61 rfl (by kernel_rfl) (by simp) ?_
   repeat' first|(refine zf ?_;first|(refine zq.nil ?_)|(refine kG ?_;first|(refine zq.gT rfl rfl rfl ?_)|(refine zq.gF rfl rfl rfl ?_)|(refine zq.gD true rfl rfl rfl ?_ ?_;(focus (first|(simp only [decide_eq_true_eq,decide_eq_false_iff_not,Bool.not_eq_true',Bool.not_eq_false',Int.ofNat_lt,Int.ofNat_le,Int.ofNat_inj,not_true_eq_false,not_false_eq_true];omega))))|(refine zq.gD false rfl rfl rfl ?_ ?_;(focus (first|(simp only [decide_eq_true_eq,decide_eq_false_iff_not,Bool.not_eq_true',Bool.not_eq_false',Int.ofNat_lt,Int.ofNat_le,Int.ofNat_inj,not_true_eq_false,not_false_eq_true];omega)))))|(refine zq.ev zx rfl ?_)|(refine qW ?_;refine zq.box rfl rfl rfl rfl ?_)|(refine zo ?_;first|(refine zq.ans (zk.zm zx rfl rfl rfl rfl) ?_))|(refine qx ?_;first|(refine zq.ans (zk.z8 zx rfl rfl rfl) ?_))|(refine xw ?_;first|(refine zq.ans (zk.idx (j:=0) zx rfl rfl rfl rfl rfl hg0 rfl rfl) ?_))|(refine zy 27 ?_;first|(refine zq.ans (zk.ze rfl rfl rfl (jO) (hT _)) ?_)))|(refine zH ?_;first|(refine WL.seq ?_)|(refine WL.region (by kernel_rfl) ?_)|(refine WL.ret ?_)|(refine zu ?_;first|(refine WL.qb rfl ?_)))|(refine zw ?_)|(refine zZ ?_)|(refine zh.r1 (r := .tmp 4) (.inl rfl) (zn.tmp rfl) ?_)|(refine zX.mk ?_)
   all_goals first|(simp only [PL.ok];rw [hno];rfl) | trace_state
 by_cases c5:((1:Int)≤p.items.length∧(p.items.length:Int)≤12)
 case neg =>
   have hno:=hno (by omega)
   rw [show jw p.items.length 1 12=false by simp only [jw,Bool.and_eq_false_iff,decide_eq_false_iff_not];omega] at hI
   refine zi.pure Tryz.func61 rfl (by kernel_rfl) (by simp) ?_
   repeat' first|(refine zf ?_;first|(refine zq.nil ?_)|(refine kG ?_;first|(refine zq.gT rfl rfl rfl ?_)|(refine zq.gF rfl rfl rfl ?_)|(refine zq.gD false rfl rfl rfl ?_ ?_;(focus (first|(simp only [decide_eq_true_eq,decide_eq_false_iff_not,Bool.not_eq_true',Bool.not_eq_false',Int.ofNat_lt,Int.ofNat_le,Int.ofNat_inj,not_true_eq_false,not_false_eq_true];omega)))))|(refine zq.ev zx rfl ?_)|(refine qW ?_;refine zq.box rfl rfl rfl rfl ?_)|(refine zo ?_;first|(refine zq.ans (zk.zm zx rfl rfl rfl rfl) ?_))|(refine qx ?_;first|(refine zq.ans (zk.z8 zx rfl rfl rfl) ?_))|(refine xw ?_;first|(refine zq.ans (zk.idx (j:=0) zx rfl rfl rfl rfl rfl hg0 rfl rfl) ?_))|(refine zy 27 ?_;first|(refine zq.ans (zk.ze rfl rfl rfl (jO) (hT _)) ?_)|(refine zq.ans (zk.ze rfl rfl rfl (jO) (hI _)) ?_)))|(refine zH ?_;first|(refine WL.seq ?_)|(refine WL.region (by kernel_rfl) ?_)|(refine WL.ret ?_)|(refine zu ?_;first|(refine WL.qb rfl ?_)))|(refine zw ?_)|(refine zZ ?_)|(refine zh.r1 (r := .tmp 4) (.inl rfl) (zn.tmp rfl) ?_)|(refine zX.mk ?_)
   all_goals first|(simp only [PL.ok];rw [hno];rfl) | trace_state
 rw [show jw p.items.length 1 12=true by simp only [jw,Bool.and_eq_true,decide_eq_true_eq];omega] at hI
 by_cases c6:(p.names.length:Int)=p.items.length
 case neg =>
   have hno:=hno (by omega)
   refine zi.pure Tryz.func61 rfl (by kernel_rfl) (by simp) ?_
   repeat' first|(refine zf ?_;first|(refine zq.nil ?_)|(refine kG ?_;first|(refine zq.gT rfl rfl rfl ?_)|(refine zq.gF rfl rfl rfl ?_)|(refine zq.gD true rfl rfl rfl ?_ ?_;(focus (first|(simp only [decide_eq_true_eq,decide_eq_false_iff_not,Bool.not_eq_true',Bool.not_eq_false',Int.ofNat_lt,Int.ofNat_le,Int.ofNat_inj,not_true_eq_false,not_false_eq_true];omega))))|(refine zq.gD false rfl rfl rfl ?_ ?_;(focus (first|(simp only [decide_eq_true_eq,decide_eq_false_iff_not,Bool.not_eq_true',Bool.not_eq_false',Int.ofNat_lt,Int.ofNat_le,Int.ofNat_inj,not_true_eq_false,not_false_eq_true];omega)))))|(refine zq.ev zx rfl ?_)|(refine qW ?_;refine zq.box rfl rfl rfl rfl ?_)|(refine zo ?_;first|(refine zq.ans (zk.zm zx rfl rfl rfl rfl) ?_))|(refine qx ?_;first|(refine zq.ans (zk.z8 zx rfl rfl rfl) ?_))|(refine xw ?_;first|(refine zq.ans (zk.idx (j:=0) zx rfl rfl rfl rfl rfl hg0 rfl rfl) ?_))|(refine zy 27 ?_;first|(refine zq.ans (zk.ze rfl rfl rfl (jO) (hT _)) ?_)|(refine zq.ans (zk.ze rfl rfl rfl (jO) (hI _)) ?_)))|(refine zH ?_;first|(refine WL.seq ?_)|(refine WL.region (by kernel_rfl) ?_)|(refine WL.ret ?_)|(refine zu ?_;first|(refine WL.qb rfl ?_)))|(refine zw ?_)|(refine zZ ?_)|(refine zh.r1 (r := .tmp 4) (.inl rfl) (zn.tmp rfl) ?_)|(refine zX.mk ?_)
   all_goals first|(simp only [PL.ok];rw [hno];rfl) | trace_state
 by_cases c7 : -1≤p.limit
 case neg =>
   have hno:=hno (by omega)
   refine zi.pure Tryz.func61 rfl (by kernel_rfl) (by simp) ?_
   repeat' first|(refine zf ?_;first|(refine zq.nil ?_)|(refine kG ?_;first|(refine zq.gT rfl rfl rfl ?_)|(refine zq.gD false rfl rfl rfl ?_ ?_;(focus (first|(simp only [decide_eq_true_eq,decide_eq_false_iff_not,Bool.not_eq_true',Bool.not_eq_false',Int.ofNat_lt,Int.ofNat_le,Int.ofNat_inj,not_true_eq_false,not_false_eq_true];omega)))))|(refine zq.ev zx rfl ?_)|(refine qW ?_;refine zq.box rfl rfl rfl rfl ?_)|(refine zo ?_;first|(refine zq.ans (zk.zm zx rfl rfl rfl rfl) ?_))|(refine qx ?_;first|(refine zq.ans (zk.z8 zx rfl rfl rfl) ?_))|(refine xw ?_;first|(refine zq.ans (zk.idx (j:=0) zx rfl rfl rfl rfl rfl hg0 rfl rfl) ?_))|(refine zy 27 ?_;first|(refine zq.ans (zk.ze rfl rfl rfl (jO) (hT _)) ?_)|(refine zq.ans (zk.ze rfl rfl rfl (jO) (hI _)) ?_)))|(refine zH ?_;first|(refine WL.seq ?_)|(refine WL.region (by kernel_rfl) ?_)|(refine WL.ret ?_)|(refine zu ?_;first|(refine WL.zJ rfl ?_ ?_;(focus (first|(simp only [decide_eq_true_eq,decide_eq_false_iff_not,Bool.not_eq_true',Bool.not_eq_false',Int.ofNat_lt,Int.ofNat_le,Int.ofNat_inj,not_true_eq_false,not_false_eq_true];omega))))))|(refine zw ?_)|(refine zZ ?_)|(refine zh.r1 (r := .tmp 4) (.inl rfl) (zn.tmp rfl) ?_)|(refine zX.mk ?_)
   all_goals first|(simp only [PL.ok];rw [hno];rfl) | trace_state
 have hyes:p.form=(p.on.all (fun l=>decide (l.length≤1))&&p.names.all nameOk):=PL.JY ⟨by omega,by omega,by omega,by rw [LC];omega,by omega,by omega,by omega,by omega,by omega,c7⟩
 refine zi.pure Tryz.func61 rfl (by kernel_rfl) (by simp) ?_
 repeat' first|(refine zf ?_;first|(refine zq.nil ?_)|(refine kG ?_;first|(refine zq.gT rfl rfl rfl ?_)|(refine zq.gD false rfl rfl rfl ?_ ?_;(focus (first|(simp only [decide_eq_true_eq,decide_eq_false_iff_not,Bool.not_eq_true',Bool.not_eq_false',Int.ofNat_lt,Int.ofNat_le,Int.ofNat_inj,not_true_eq_false,not_false_eq_true];omega)))))|(refine zq.ev zx rfl ?_)|(refine qW ?_;refine zq.box rfl rfl rfl rfl ?_)|(refine zo ?_;first|(refine zq.ans (zk.zm zx rfl rfl rfl rfl) ?_))|(refine qx ?_;first|(refine zq.ans (zk.z8 zx rfl rfl rfl) ?_))|(refine xw ?_;first|(refine zq.ans (zk.idx (j:=0) zx rfl rfl rfl rfl rfl hg0 rfl rfl) ?_))|(refine zy 27 ?_;first|(refine zq.ans (zk.ze rfl rfl rfl (jO) (hT _)) ?_)|(refine zq.ans (zk.ze rfl rfl rfl (jO) (hI _)) ?_)))|(refine zH ?_;first|(refine WL.seq ?_)|(refine WL.region (by kernel_rfl) ?_)|(refine WL.block ?_)|(refine WL.skip ?_)|(refine zu ?_;first|(refine WL.zY rfl ?_ ?_;(focus (first|(simp only [decide_eq_true_eq,decide_eq_false_iff_not,Bool.not_eq_true',Bool.not_eq_false',Int.ofNat_lt,Int.ofNat_le,Int.ofNat_inj,not_true_eq_false,not_false_eq_true];omega))))))|(refine zw ?_)
 have hall:p.on.all (fun l=>decide (l.length≤1))=(p.on.drop 0).all (fun l=>decide (l.length≤1)):=by simp
 refine WL.xK (fun i:Nat=>p.on.length - i) (fun i=>[(2,.ptr (s.next+0) 0),(3,.ptr (s.next+1) 0),(5,.int .i64 (i:Int))]) (fun i=>[.var [.sl 0 (c.tables.map Tab.zF)],.var p.v.cells])
   (fun i=>i≤p.on.length∧(p.on.take i).all (fun l=>decide (l.length≤1))=true) 2 0 ⟨by simp,by simp⟩ (fun _=>rfl) ⟨rfl,rfl,rfl,trivial⟩ rfl (fun i hi=>?_) (fun i hi=>?_)
 · simp [qF,qG,Own.under,V.under,V.zO,PL.v,V.cells]
 obtain ⟨hi,ha⟩:=hi
 rcases Nat.lt_or_ge i p.on.length with hlt | hge
 · have hga : (p.on.map PE.vS)[i]? = some (PE.vS p.on[i]) := by rw [List.getElem?_map, List.getElem?_eq_getElem hlt]; rfl
   have hst:=uW (p:=fun l:List PE=>decide (l.length≤1)) hlt
   rw [ha,Bool.true_and] at hst
   by_cases hl:(p.on[i].length:Int)≤1
   · rw [decide_eq_true (by omega)] at hst
     generalize p.on[i]=l at hga hl
     repeat' first|(refine zf ?_;first|(refine zq.nil ?_)|(refine zq.ev zx rfl ?_)|(refine zo ?_;first|(refine zq.ans (zk.zm zx rfl rfl rfl rfl) ?_))|(refine qx ?_;first|(refine zq.ans (zk.z8 zx rfl rfl rfl) ?_))|(refine xk ?_;first|(refine zq.ans (zk.add rfl rfl ?_) ?_;(focus (constructor <;> omega))))|(refine xw ?_;first|(refine zq.ans (zk.idx zx rfl rfl rfl rfl rfl hga rfl rfl) ?_)))|(refine zH ?_;first|(refine WL.seq ?_)|(refine WL.region (by kernel_rfl) ?_)|(refine WL.block ?_)|(refine WL.skip ?_)|(refine zu ?_;first|(refine WL.zJ rfl ?_ ?_;(focus (first|(simp only [decide_eq_true_eq,decide_eq_false_iff_not,Bool.not_eq_true',Bool.not_eq_false',Int.ofNat_lt,Int.ofNat_le,Int.ofNat_inj,not_true_eq_false,not_false_eq_true];omega))))|(refine WL.zY rfl ?_ ?_;(focus (first|(simp only [decide_eq_true_eq,decide_eq_false_iff_not,Bool.not_eq_true',Bool.not_eq_false',Int.ofNat_lt,Int.ofNat_le,Int.ofNat_inj,not_true_eq_false,not_false_eq_true];omega))))))|(refine zw ?_)|(refine zQ ?_)
     all_goals
       refine qB.of (i+1) ?_ ?_ ?_ ?_
       · first | omega |(refine ⟨?_,?_⟩;(focus (first | omega |(simp;omega)));(first | omega |(simp_all [hst] <;> fail)|(simp_all [hst];omega)))|(simp_all [hst] <;> fail)|(simp_all [hst];omega)
       · first | omega |(simp;omega) | simp_all
       · repeat' first
           | exact qz.nil
           |(refine qz.mk rfl ?_ ?_)
           | rfl
           |(simp [hst] <;> fail)
           |(simp [hst];omega)
       · first | rfl |(simp [hst] <;> fail)|(simp [hst];omega)
   · have EM:p.on.all (fun l=>decide (l.length≤1))=false:=by
       rw [List.all_eq_false]
       exact ⟨p.on[i],List.getElem_mem hlt,by simp;omega⟩
     rw [EM] at hyes
     generalize p.on[i]=l at hga hl
     repeat' first|(refine zf ?_;first|(refine zq.nil ?_)|(refine zq.ev zx rfl ?_)|(refine zo ?_;first|(refine zq.ans (zk.zm zx rfl rfl rfl rfl) ?_))|(refine qx ?_;first|(refine zq.ans (zk.z8 zx rfl rfl rfl) ?_))|(refine xw ?_;first|(refine zq.ans (zk.idx zx rfl rfl rfl rfl rfl hga rfl rfl) ?_)))|(refine zH ?_;first|(refine WL.seq ?_)|(refine WL.region (by kernel_rfl) ?_)|(refine WL.block ?_)|(refine WL.skip ?_)|(refine WL.ret ?_)|(refine zu ?_;first|(refine WL.zJ rfl ?_ ?_;(focus (first|(simp only [decide_eq_true_eq,decide_eq_false_iff_not,Bool.not_eq_true',Bool.not_eq_false',Int.ofNat_lt,Int.ofNat_le,Int.ofNat_inj,not_true_eq_false,not_false_eq_true];omega))))))|(refine zw ?_)|(refine zZ ?_)|(refine zB ?_)|(refine qH ?_)|(refine zh.r1 (r := .tmp 4) (.inl rfl) (zn.tmp rfl) ?_)|(refine zX.mk ?_)
     simp only [PL.ok]
     rw [hyes]
     rfl
 rw [List.take_of_length_le hge] at ha
 rw [ha,Bool.true_and] at hyes
 repeat' first|(refine zf ?_;first|(refine zq.nil ?_)|(refine zq.ev zx rfl ?_)|(refine zo ?_;first|(refine zq.ans (zk.zm zx rfl rfl rfl rfl) ?_))|(refine qx ?_;first|(refine zq.ans (zk.z8 zx rfl rfl rfl) ?_)))|(refine zH ?_;first|(refine WL.seq ?_)|(refine WL.region (by kernel_rfl) ?_)|(refine WL.block ?_)|(refine WL.exit ?_)|(refine zu ?_;first|(refine WL.zY rfl ?_ ?_;(focus (first|(simp only [decide_eq_true_eq,decide_eq_false_iff_not,Bool.not_eq_true',Bool.not_eq_false',Int.ofNat_lt,Int.ofNat_le,Int.ofNat_inj,not_true_eq_false,not_false_eq_true];omega))))))|(refine zw ?_)|(refine zC ?_)|(refine zV ?_)|(refine zL ?_)
 refine WL.xK (fun i:Nat=>p.names.length - i) (fun i=>[(2,.ptr (s.next+0) 0),(3,.ptr (s.next+1) 0),(6,.int .i64 (i:Int))]) (fun i=>[.var [.sl 0 (c.tables.map Tab.zF)],.var p.v.cells])
   (fun i=>i≤p.names.length∧(p.names.take i).all nameOk=true) 2 0 ⟨by simp,by simp⟩ (fun _=>rfl) ⟨rfl,rfl,rfl,trivial⟩ rfl (fun i hi=>?_) (fun i hi=>?_)
 · simp [qF,qG,Own.under,V.under,V.zO,PL.v,V.cells]
 obtain ⟨hi,ha2⟩:=hi
 rcases Nat.lt_or_ge i p.names.length with hlt | hge
 · have hga : (p.names.map sV)[i]? = some (sV p.names[i]) := by rw [List.getElem?_map, List.getElem?_eq_getElem hlt]; rfl
   have hst:=uW (p:=nameOk) hlt
   rw [ha2,Bool.true_and] at hst
   have hN:=fun t=>jh p.names[i] t
   cases hl:nameOk p.names[i] <;> rw [hl] at hN hst
   · have EM:p.names.all nameOk=false:=by
       rw [List.all_eq_false]
       exact ⟨p.names[i],List.getElem_mem hlt,by simp [hl]⟩
     rw [EM] at hyes
     generalize p.names[i]=l at hga hN
     repeat' first|(refine zf ?_;first|(refine zq.nil ?_)|(refine zq.ev zx rfl ?_)|(refine zo ?_;first|(refine zq.ans (zk.zm zx rfl rfl rfl rfl) ?_))|(refine qx ?_;first|(refine zq.ans (zk.z8 zx rfl rfl rfl) ?_))|(refine xw ?_;first|(refine zq.ans (zk.idx zx rfl rfl rfl rfl rfl hga rfl rfl) ?_))|(refine zy 25 ?_;first|(refine zq.ans (zk.ze rfl rfl rfl (Ze) (hN _)) ?_)))|(refine zH ?_;first|(refine WL.seq ?_)|(refine WL.region (by kernel_rfl) ?_)|(refine WL.block ?_)|(refine WL.skip ?_)|(refine WL.ret ?_)|(refine zu ?_;first|(refine WL.qb rfl ?_)|(refine WL.zJ rfl ?_ ?_;(focus (first|(simp only [decide_eq_true_eq,decide_eq_false_iff_not,Bool.not_eq_true',Bool.not_eq_false',Int.ofNat_lt,Int.ofNat_le,Int.ofNat_inj,not_true_eq_false,not_false_eq_true];omega))))))|(refine zw ?_)|(refine zZ ?_)|(refine zB ?_)|(refine qH ?_)|(refine zh.r1 (r := .tmp 4) (.inl rfl) (zn.tmp rfl) ?_)|(refine zX.mk ?_)
     simp only [PL.ok]
     rw [hyes]
     rfl
   · generalize p.names[i] = l at hga hN
     repeat' first|(refine zf ?_;first|(refine zq.nil ?_)|(refine zq.ev zx rfl ?_)|(refine zo ?_;first|(refine zq.ans (zk.zm zx rfl rfl rfl rfl) ?_))|(refine qx ?_;first|(refine zq.ans (zk.z8 zx rfl rfl rfl) ?_))|(refine xk ?_;first|(refine zq.ans (zk.add rfl rfl ?_) ?_;(focus (constructor <;> omega))))|(refine xw ?_;first|(refine zq.ans (zk.idx zx rfl rfl rfl rfl rfl hga rfl rfl) ?_))|(refine zy 25 ?_;first|(refine zq.ans (zk.ze rfl rfl rfl (Ze) (hN _)) ?_)))|(refine zH ?_;first|(refine WL.seq ?_)|(refine WL.region (by kernel_rfl) ?_)|(refine WL.block ?_)|(refine WL.skip ?_)|(refine zu ?_;first|(refine WL.qQ rfl ?_)|(refine WL.zJ rfl ?_ ?_;(focus (first|(simp only [decide_eq_true_eq,decide_eq_false_iff_not,Bool.not_eq_true',Bool.not_eq_false',Int.ofNat_lt,Int.ofNat_le,Int.ofNat_inj,not_true_eq_false,not_false_eq_true];omega))))))|(refine zw ?_)|(refine zQ ?_)
     all_goals
       refine qB.of (i+1) ?_ ?_ ?_ ?_
       · first | omega |(refine ⟨?_,?_⟩;(focus (first | omega |(simp;omega)));(first | omega |(simp_all [hst] <;> fail)|(simp_all [hst];omega)))|(simp_all [hst] <;> fail)|(simp_all [hst];omega)
       · first | omega |(simp;omega) | simp_all
       · repeat' first
           | exact qz.nil
           |(refine qz.mk rfl ?_ ?_)
           | rfl
           |(simp [hst] <;> fail)
           |(simp [hst];omega)
       · first | rfl |(simp [hst] <;> fail)|(simp [hst];omega)
 rw [List.take_of_length_le hge] at ha2
 rw [ha2] at hyes
 have hR:=fun t=>aT c p.tables hc (by omega) t
 repeat' first|(refine zf ?_;first|(refine zq.nil ?_)|(refine zq.ev zx rfl ?_)|(refine zo ?_;first|(refine zq.ans (zk.zm zx rfl rfl rfl rfl) ?_))|(refine qx ?_;first|(refine zq.ans (zk.z8 zx rfl rfl rfl) ?_))|(refine zy 62 ?_;first|(refine zq.ans (zk.ze rfl rfl rfl (Vt) (hR _)) ?_)))|(refine zH ?_;first|(refine WL.seq ?_)|(refine WL.region (by kernel_rfl) ?_)|(refine WL.exit ?_)|(refine WL.ret ?_)|(refine zu ?_;first|(refine WL.zY rfl ?_ ?_;(focus (first|(simp only [decide_eq_true_eq,decide_eq_false_iff_not,Bool.not_eq_true',Bool.not_eq_false',Int.ofNat_lt,Int.ofNat_le,Int.ofNat_inj,not_true_eq_false,not_false_eq_true];omega))))))|(refine zw ?_)|(refine zC ?_)|(refine zV ?_)|(refine zL ?_)|(refine zh.r1 (r := .tmp 4) (.inl rfl) (zn.tmp rfl) ?_)|(refine zX.mk ?_)
 simp only [PL.ok,hyes,Bool.true_and,jU]
 split <;> simp_all
end Go.Proofs.YtolhegocbkckdaaGreat
