/-
 The bounds of plans, of the program and of the reference. Own work; no condition.
-/
import Derived.Test.YtolhegocbkckdaaDTyA2
import Derived.Test.YtolhegocbkckdaaDRowP
import Derived.Test.YtolhegocbkckdaaDUps
namespace Go.Proofs.Ytolhegocbkckdaa
open Go
set_option linter.unusedSimpArgs false
set_option linter.unusedVariables false
theorem indexFuncPExprS_v (xs:List (List PE)) (p:List PE→Bool) (g:FuncId) (caps:List V) (hxs:xs.length≤16777216) (s:S) (hg:CallOk Try.prog g) (hcd:V.underL s.next caps=true)
   (hp:∀ x∈xs,∀ ys,VCalls Try.prog g (PE.vS x::caps) (s.ext ys) (fun v s'=>v = .bool (p x)∧s'=s.ext ys)) :
   VCalls Try.prog 149 [.sl 0 (xs.map PE.vS),.fn g caps] s (fun v s'=>v = .int .i64 (findI p xs 0)∧s'=s):=by
 refine LCalls.pure Try.func149 rfl (by kernel_rfl) (by simp) ?_
 repeat' first |(refine kOps ?_;first |(refine LOps.nil ?_) |(refine LOps.ev tT_ok rfl ?_) |(refine kLen ?_;first |(refine LOps.ans (AnsL.lenM tT_ok rfl rfl rfl) ?_))) |(refine kWL ?_;first |(refine WL.seq ?_) |(refine WL.region (by kernel_rfl) ?_) |(refine WL.block ?_)) |(refine lthen_n ?_)
 refine WL.loopD (fun i:Nat=>xs.length - i) (fun i=>[(0,.sl 0 (xs.map PE.vS)),(1,.fn g caps),(7,.int .i64 xs.length),(8,.int .i64 (i:Int))]) (fun i=>[])
   (fun i=>i≤xs.length∧findI p xs 0=findI p (xs.drop i) i) 0 0 ⟨by simp,rfl⟩ (fun _=>rfl) ⟨rfl,rfl,rfl,rfl,trivial⟩ rfl (fun i hi=>?_) (fun i hi=>?_)
 · simp [UnderK,UnderX,Own.under,V.under,V.underL,hcd]
 obtain ⟨hi,hc⟩:=hi
 rcases Nat.lt_or_ge i xs.length with hlt | hge
 · rw [findI_drop hlt] at hc
   have hE:=fun ys=>hp xs[i] (List.getElem_mem hlt) ys
   have hga:(xs.map PE.vS)[i]?=some (PE.vS xs[i]):=by simp [hlt]
   cases hpx:p xs[i]
   all_goals rw [hpx] at hE hc
   · generalize xs[i]=y at hga hE
     repeat' first |(refine kOps ?_;first |(refine LOps.nil ?_) |(refine LOps.ev tT_ok rfl ?_) |(refine kBin ?_;first |(refine LOps.ans (AnsL.add rfl rfl ?_) ?_;(focus (constructor <;> omega)))) |(refine kIdx ?_;first |(refine LOps.ans (AnsL.idx tT_ok rfl rfl rfl rfl rfl hga rfl rfl) ?_)) |(refine kCall ?_;first |(refine LOps.ans (AnsL.callP rfl rfl rfl (hg) (hE _)) ?_))) |(refine kWL ?_;first |(refine WL.seq ?_) |(refine WL.region (by kernel_rfl) ?_) |(refine WL.block ?_) |(refine WL.skip ?_) |(refine kCond ?_;first |(refine WL.condF rfl ?_) |(refine WL.condT' rfl ?_ ?_;(focus (first |(simp only [decide_eq_true_eq,decide_eq_false_iff_not,Bool.not_eq_true',Bool.not_eq_false',Int.ofNat_lt,Int.ofNat_le,Int.ofNat_inj,not_true_eq_false,not_false_eq_true];omega)))))) |(refine lthen_n ?_) |(refine lblock_n ?_)
     all_goals
       refine lbackD.of (i+1) ?_ ?_ ?_ ?_
       · first | omega |(refine ⟨?_,?_⟩;(focus (first | omega |(simp;omega)));(first | omega |(simp_all [hc] <;> fail) |(simp_all [hc];omega))) |(simp_all [hc] <;> fail) |(simp_all [hc];omega)
       · first | omega |(simp;omega) | simp_all
       · repeat' first
           | exact SubL.nil
           |(refine SubL.mk rfl ?_ ?_)
           | rfl
           |(simp [hc] <;> fail)
           |(simp [hc];omega)
       · first | rfl |(simp [hc] <;> fail) |(simp [hc];omega)
   · generalize xs[i]=y at hga hE
     repeat' first |(refine kOps ?_;first |(refine LOps.nil ?_) |(refine LOps.ev tT_ok rfl ?_) |(refine kIdx ?_;first |(refine LOps.ans (AnsL.idx tT_ok rfl rfl rfl rfl rfl hga rfl rfl) ?_)) |(refine kCall ?_;first |(refine LOps.ans (AnsL.callP rfl rfl rfl (hg) (hE _)) ?_))) |(refine kWL ?_;first |(refine WL.seq ?_) |(refine WL.region (by kernel_rfl) ?_) |(refine WL.block ?_) |(refine WL.skip ?_) |(refine WL.ret ?_) |(refine kCond ?_;first |(refine WL.condT rfl ?_) |(refine WL.condT' rfl ?_ ?_;(focus (first |(simp only [decide_eq_true_eq,decide_eq_false_iff_not,Bool.not_eq_true',Bool.not_eq_false',Int.ofNat_lt,Int.ofNat_le,Int.ofNat_inj,not_true_eq_false,not_false_eq_true];omega)))))) |(refine lthen_n ?_) |(refine lthen_r ?_) |(refine lblock_r ?_) |(refine lbackD_r ?_) |(refine LPost.r1 (r := .tmp 4) (.inl rfl) (Res1.tmp rfl) ?_) |(refine PureR.mk ?_)
     simp_all
 · rw [findI_end hge] at hc
   repeat' first |(refine kOps ?_;first |(refine LOps.nil ?_) |(refine LOps.ev tT_ok rfl ?_)) |(refine kWL ?_;first |(refine WL.seq ?_) |(refine WL.region (by kernel_rfl) ?_) |(refine WL.exit ?_) |(refine WL.ret ?_) |(refine kCond ?_;first |(refine WL.condF' rfl ?_ ?_;(focus (first |(simp only [decide_eq_true_eq,decide_eq_false_iff_not,Bool.not_eq_true',Bool.not_eq_false',Int.ofNat_lt,Int.ofNat_le,Int.ofNat_inj,not_true_eq_false,not_false_eq_true];omega)))))) |(refine lthen_n ?_) |(refine lthen_e ?_) |(refine lblock_e ?_) |(refine lbackD_e ?_) |(refine LPost.r1 (r := .tmp 4) (.inl rfl) (Res1.tmp rfl) ?_) |(refine PureR.mk ?_)
   simp [hc]
theorem containsFuncPExprS_v (xs:List (List PE)) (p:List PE→Bool) (g:FuncId) (caps:List V) (hxs:xs.length≤16777216) (s:S) (hg:CallOk Try.prog g) (hcd:V.underL s.next caps=true)
   (hp:∀ x∈xs,∀ ys,VCalls Try.prog g (PE.vS x::caps) (s.ext ys) (fun v s'=>v = .bool (p x)∧s'=s.ext ys)) :
   VCalls Try.prog 132 [.sl 0 (xs.map PE.vS),.fn g caps] s (fun v s'=>v = .bool (xs.any p)∧s'=s):=by
 have hp2:∀ x∈xs,∀ zs ys,VCalls Try.prog g (PE.vS x::caps) ((s.ext zs).ext ys) (fun v s'=>v = .bool (p x)∧s'=(s.ext zs).ext ys):=fun x hx zs ys=>by rw [ext_ext];exact hp x hx _
 rw [← findI_any2 xs 0 (by omega)]
 refine LCalls.pure Try.func132 rfl (by kernel_rfl) (by simp) ?_
 repeat' first |(refine kOps ?_;first |(refine LOps.nil ?_) |(refine LOps.ev tT_ok rfl ?_) |(refine kCallN 149 ?_;first |(refine LOps.ans (AnsL.callP rfl rfl rfl (ok149) (indexFuncPExprS_v _ p _ _ hxs _ hg ?_ ?_)) ?_;(focus (exact hcd));(focus (exact fun x hx ys=>hp2 x hx _ ys))))) |(refine kWL ?_;first |(refine WL.seq ?_) |(refine WL.region (by kernel_rfl) ?_) |(refine WL.ret ?_)) |(refine lthen_n ?_) |(refine LPost.r1 (r := .tmp 4) (.inl rfl) (Res1.tmp rfl) ?_) |(refine PureR.mk ?_)
 rfl
theorem indexFuncString_v (xs:List (List UInt8)) (p:List UInt8→Bool) (g:FuncId) (caps:List V) (hxs:xs.length≤16777216) (s:S) (hg:CallOk Try.prog g) (hcd:V.underL s.next caps=true)
   (hp:∀ x∈xs,∀ ys,VCalls Try.prog g (sV x::caps) (s.ext ys) (fun v s'=>v = .bool (p x)∧s'=s.ext ys)) :
   VCalls Try.prog 150 [.sl 0 (xs.map sV),.fn g caps] s (fun v s'=>v = .int .i64 (findI p xs 0)∧s'=s):=by
 refine LCalls.pure Try.func150 rfl (by kernel_rfl) (by simp) ?_
 repeat' first |(refine kOps ?_;first |(refine LOps.nil ?_) |(refine LOps.ev tT_ok rfl ?_) |(refine kLen ?_;first |(refine LOps.ans (AnsL.lenM tT_ok rfl rfl rfl) ?_))) |(refine kWL ?_;first |(refine WL.seq ?_) |(refine WL.region (by kernel_rfl) ?_) |(refine WL.block ?_)) |(refine lthen_n ?_)
 refine WL.loopD (fun i:Nat=>xs.length - i) (fun i=>[(0,.sl 0 (xs.map sV)),(1,.fn g caps),(7,.int .i64 xs.length),(8,.int .i64 (i:Int))]) (fun i=>[])
   (fun i=>i≤xs.length∧findI p xs 0=findI p (xs.drop i) i) 0 0 ⟨by simp,rfl⟩ (fun _=>rfl) ⟨rfl,rfl,rfl,rfl,trivial⟩ rfl (fun i hi=>?_) (fun i hi=>?_)
 · simp [UnderK,UnderX,Own.under,V.under,V.underL,hcd]
 obtain ⟨hi,hc⟩:=hi
 rcases Nat.lt_or_ge i xs.length with hlt | hge
 · rw [findI_drop hlt] at hc
   have hE:=fun ys=>hp xs[i] (List.getElem_mem hlt) ys
   have hga:(xs.map sV)[i]?=some (sV xs[i]):=by simp [hlt]
   cases hpx:p xs[i]
   all_goals rw [hpx] at hE hc
   · generalize xs[i]=y at hga hE
     repeat' first |(refine kOps ?_;first |(refine LOps.nil ?_) |(refine LOps.ev tT_ok rfl ?_) |(refine kBin ?_;first |(refine LOps.ans (AnsL.add rfl rfl ?_) ?_;(focus (constructor <;> omega)))) |(refine kIdx ?_;first |(refine LOps.ans (AnsL.idx tT_ok rfl rfl rfl rfl rfl hga rfl rfl) ?_)) |(refine kCall ?_;first |(refine LOps.ans (AnsL.callP rfl rfl rfl (hg) (hE _)) ?_))) |(refine kWL ?_;first |(refine WL.seq ?_) |(refine WL.region (by kernel_rfl) ?_) |(refine WL.block ?_) |(refine WL.skip ?_) |(refine kCond ?_;first |(refine WL.condF rfl ?_) |(refine WL.condT' rfl ?_ ?_;(focus (first |(simp only [decide_eq_true_eq,decide_eq_false_iff_not,Bool.not_eq_true',Bool.not_eq_false',Int.ofNat_lt,Int.ofNat_le,Int.ofNat_inj,not_true_eq_false,not_false_eq_true];omega)))))) |(refine lthen_n ?_) |(refine lblock_n ?_)
     all_goals
       refine lbackD.of (i+1) ?_ ?_ ?_ ?_
       · first | omega |(refine ⟨?_,?_⟩;(focus (first | omega |(simp;omega)));(first | omega |(simp_all [hc] <;> fail) |(simp_all [hc];omega))) |(simp_all [hc] <;> fail) |(simp_all [hc];omega)
       · first | omega |(simp;omega) | simp_all
       · repeat' first
           | exact SubL.nil
           |(refine SubL.mk rfl ?_ ?_)
           | rfl
           |(simp [hc] <;> fail)
           |(simp [hc];omega)
       · first | rfl |(simp [hc] <;> fail) |(simp [hc];omega)
   · generalize xs[i]=y at hga hE
     repeat' first |(refine kOps ?_;first |(refine LOps.nil ?_) |(refine LOps.ev tT_ok rfl ?_) |(refine kIdx ?_;first |(refine LOps.ans (AnsL.idx tT_ok rfl rfl rfl rfl rfl hga rfl rfl) ?_)) |(refine kCall ?_;first |(refine LOps.ans (AnsL.callP rfl rfl rfl (hg) (hE _)) ?_))) |(refine kWL ?_;first |(refine WL.seq ?_) |(refine WL.region (by kernel_rfl) ?_) |(refine WL.block ?_) |(refine WL.skip ?_) |(refine WL.ret ?_) |(refine kCond ?_;first |(refine WL.condT rfl ?_) |(refine WL.condT' rfl ?_ ?_;(focus (first |(simp only [decide_eq_true_eq,decide_eq_false_iff_not,Bool.not_eq_true',Bool.not_eq_false',Int.ofNat_lt,Int.ofNat_le,Int.ofNat_inj,not_true_eq_false,not_false_eq_true];omega)))))) |(refine lthen_n ?_) |(refine lthen_r ?_) |(refine lblock_r ?_) |(refine lbackD_r ?_) |(refine LPost.r1 (r := .tmp 4) (.inl rfl) (Res1.tmp rfl) ?_) |(refine PureR.mk ?_)
     simp_all
 · rw [findI_end hge] at hc
   repeat' first |(refine kOps ?_;first |(refine LOps.nil ?_) |(refine LOps.ev tT_ok rfl ?_)) |(refine kWL ?_;first |(refine WL.seq ?_) |(refine WL.region (by kernel_rfl) ?_) |(refine WL.exit ?_) |(refine WL.ret ?_) |(refine kCond ?_;first |(refine WL.condF' rfl ?_ ?_;(focus (first |(simp only [decide_eq_true_eq,decide_eq_false_iff_not,Bool.not_eq_true',Bool.not_eq_false',Int.ofNat_lt,Int.ofNat_le,Int.ofNat_inj,not_true_eq_false,not_false_eq_true];omega)))))) |(refine lthen_n ?_) |(refine lthen_e ?_) |(refine lblock_e ?_) |(refine lbackD_e ?_) |(refine LPost.r1 (r := .tmp 4) (.inl rfl) (Res1.tmp rfl) ?_) |(refine PureR.mk ?_)
   simp [hc]
theorem containsFuncString_v (xs:List (List UInt8)) (p:List UInt8→Bool) (g:FuncId) (caps:List V) (hxs:xs.length≤16777216) (s:S) (hg:CallOk Try.prog g) (hcd:V.underL s.next caps=true)
   (hp:∀ x∈xs,∀ ys,VCalls Try.prog g (sV x::caps) (s.ext ys) (fun v s'=>v = .bool (p x)∧s'=s.ext ys)) :
   VCalls Try.prog 134 [.sl 0 (xs.map sV),.fn g caps] s (fun v s'=>v = .bool (xs.any p)∧s'=s):=by
 have hp2:∀ x∈xs,∀ zs ys,VCalls Try.prog g (sV x::caps) ((s.ext zs).ext ys) (fun v s'=>v = .bool (p x)∧s'=(s.ext zs).ext ys):=fun x hx zs ys=>by rw [ext_ext];exact hp x hx _
 rw [← findI_any2 xs 0 (by omega)]
 refine LCalls.pure Try.func134 rfl (by kernel_rfl) (by simp) ?_
 repeat' first |(refine kOps ?_;first |(refine LOps.nil ?_) |(refine LOps.ev tT_ok rfl ?_) |(refine kCallN 150 ?_;first |(refine LOps.ans (AnsL.callP rfl rfl rfl (ok150) (indexFuncString_v _ p _ _ hxs _ hg ?_ ?_)) ?_;(focus (exact hcd));(focus (exact fun x hx ys=>hp2 x hx _ ys))))) |(refine kWL ?_;first |(refine WL.seq ?_) |(refine WL.region (by kernel_rfl) ?_) |(refine WL.ret ?_)) |(refine lthen_n ?_) |(refine LPost.r1 (r := .tmp 4) (.inl rfl) (Res1.tmp rfl) ?_) |(refine PureR.mk ?_)
 rfl
theorem implhasPlanForm1_v (x:List PE) (s:S):VCalls Try.prog 133 [PE.vS x] s (fun v s'=>v = .bool (!decide (x.length≤1))∧s'=s):=by
 refine LCalls.pure Try.func133 rfl (by kernel_rfl) (by simp) ?_
 repeat' first |(refine kOps ?_;first |(refine LOps.nil ?_) |(refine LOps.ev tT_ok rfl ?_) |(refine kLen ?_;first |(refine LOps.ans (AnsL.lenM tT_ok rfl rfl rfl) ?_))) |(refine kWL ?_;first |(refine WL.seq ?_) |(refine WL.region (by kernel_rfl) ?_) |(refine WL.ret ?_)) |(refine lthen_n ?_) |(refine LPost.r1 (r := .tmp 2) (.inl rfl) (Res1.tmp rfl) ?_) |(refine PureR.mk ?_)
 by_cases h:x.length≤1 <;> simp [h] <;> omega
theorem implhasPlanForm2_v (x:List UInt8) (s:S):VCalls Try.prog 135 [.str x] s (fun v s'=>v = .bool (!nameOk x)∧s'=s):=by
 refine LCalls.pure Try.func135 rfl (by kernel_rfl) (by simp) ?_
 repeat' first |(refine kOps ?_;first |(refine LOps.nil ?_) |(refine LOps.ev tT_ok rfl ?_) |(refine kCallN 130 ?_;first |(refine LOps.ans (AnsL.callP rfl rfl rfl (ok130) (implNameOk_v _ _)) ?_))) |(refine kWL ?_;first |(refine WL.seq ?_) |(refine WL.region (by kernel_rfl) ?_) |(refine WL.ret ?_)) |(refine lthen_n ?_) |(refine LPost.r1 (r := .tmp 2) (.inl rfl) (Res1.tmp rfl) ?_) |(refine PureR.mk ?_)
 rfl
abbrev PL.form1 (p:PL):Prop:=1≤p.tables.length∧p.tables.length≤3∧p.on.length=p.tables.length∧(p.on.headD []).length=0∧p.wher.length≤1∧p.order.length≤12∧1≤p.items.length∧p.items.length≤12∧p.names.length=p.items.length ∧ -1≤p.limit
theorem PL.form_no {p:PL} (h:¬ p.form1):p.form=false:=by
 unfold PL.form
 rw [decide_eq_false h];rfl
theorem PL.form_yes {p:PL} (h:p.form1):p.form=(p.on.all (fun l=>decide (l.length≤1))&&p.names.all nameOk):=by
 unfold PL.form
 rw [decide_eq_true h];rfl
set_option maxHeartbeats 4000000 in
theorem implhasPlanForm_v (p:PL) (hw:wgt p.v≤1048576) (s:S):VCalls Try.prog 105 [p.v] s (fun v s'=>v = .bool p.form∧s'=s):=by
 have hon1:=PL.on_le p
 have hnl:p.names.length≤16777216:=by
   have e:=PL.wgt_eq p
   have:=wgt_len sV p.names
   omega
 have hno:¬ (1≤p.tables.length∧p.tables.length≤3∧p.on.length=p.tables.length∧(p.on.headD []).length=0∧p.wher.length≤1∧p.order.length≤12∧1≤p.items.length∧p.items.length≤12∧p.names.length=p.items.length ∧ -1≤p.limit)→p.form=false:=fun h=>PL.form_no h
 by_cases c0:(1:Int)≤p.tables.length
 case neg =>
   have hno:=hno (by omega)
   refine LCalls.pure Try.func105 rfl (by kernel_rfl) (by simp) ?_
   repeat' first |(refine kOps ?_;first |(refine LOps.nil ?_) |(refine kG ?_;first |(refine LOps.gF rfl rfl rfl ?_) |(refine LOps.gD true rfl rfl rfl ?_ ?_;(focus (first |(simp only [decide_eq_true_eq,decide_eq_false_iff_not,Bool.not_eq_true',Bool.not_eq_false',Int.ofNat_lt,Int.ofNat_le,Int.ofNat_inj,not_true_eq_false,not_false_eq_true];omega))))) |(refine LOps.ev tT_ok rfl ?_) |(refine kBox ?_;refine LOps.box rfl rfl rfl rfl ?_) |(refine kLoad ?_;first |(refine LOps.ans (AnsL.loadP tT_ok rfl rfl rfl rfl) ?_)) |(refine kLen ?_;first |(refine LOps.ans (AnsL.lenM tT_ok rfl rfl rfl) ?_))) |(refine kWL ?_;first |(refine WL.seq ?_) |(refine WL.region (by kernel_rfl) ?_) |(refine WL.ret ?_) |(refine kCond ?_;first |(refine WL.condT rfl ?_))) |(refine lthen_n ?_) |(refine lthen_r ?_) |(refine LPost.r1 (r := .tmp 2) (.inl rfl) (Res1.tmp rfl) ?_) |(refine PureR.mk ?_)
   all_goals first |(rw [hno];rfl) | trace_state
 by_cases c1:(p.tables.length:Int)≤3
 case neg =>
   have hno:=hno (by omega)
   refine LCalls.pure Try.func105 rfl (by kernel_rfl) (by simp) ?_
   repeat' first |(refine kOps ?_;first |(refine LOps.nil ?_) |(refine kG ?_;first |(refine LOps.gT rfl rfl rfl ?_) |(refine LOps.gF rfl rfl rfl ?_) |(refine LOps.gD true rfl rfl rfl ?_ ?_;(focus (first |(simp only [decide_eq_true_eq,decide_eq_false_iff_not,Bool.not_eq_true',Bool.not_eq_false',Int.ofNat_lt,Int.ofNat_le,Int.ofNat_inj,not_true_eq_false,not_false_eq_true];omega)))) |(refine LOps.gD false rfl rfl rfl ?_ ?_;(focus (first |(simp only [decide_eq_true_eq,decide_eq_false_iff_not,Bool.not_eq_true',Bool.not_eq_false',Int.ofNat_lt,Int.ofNat_le,Int.ofNat_inj,not_true_eq_false,not_false_eq_true];omega))))) |(refine LOps.ev tT_ok rfl ?_) |(refine kBox ?_;refine LOps.box rfl rfl rfl rfl ?_) |(refine kLoad ?_;first |(refine LOps.ans (AnsL.loadP tT_ok rfl rfl rfl rfl) ?_)) |(refine kLen ?_;first |(refine LOps.ans (AnsL.lenM tT_ok rfl rfl rfl) ?_))) |(refine kWL ?_;first |(refine WL.seq ?_) |(refine WL.region (by kernel_rfl) ?_) |(refine WL.ret ?_) |(refine kCond ?_;first |(refine WL.condT rfl ?_))) |(refine lthen_n ?_) |(refine lthen_r ?_) |(refine LPost.r1 (r := .tmp 2) (.inl rfl) (Res1.tmp rfl) ?_) |(refine PureR.mk ?_)
   all_goals first |(rw [hno];rfl) | trace_state
 by_cases c2:(p.on.length:Int)=p.tables.length
 case neg =>
   have hno:=hno (by omega)
   refine LCalls.pure Try.func105 rfl (by kernel_rfl) (by simp) ?_
   repeat' first |(refine kOps ?_;first |(refine LOps.nil ?_) |(refine kG ?_;first |(refine LOps.gT rfl rfl rfl ?_) |(refine LOps.gF rfl rfl rfl ?_) |(refine LOps.gD true rfl rfl rfl ?_ ?_;(focus (first |(simp only [decide_eq_true_eq,decide_eq_false_iff_not,Bool.not_eq_true',Bool.not_eq_false',Int.ofNat_lt,Int.ofNat_le,Int.ofNat_inj,not_true_eq_false,not_false_eq_true];omega)))) |(refine LOps.gD false rfl rfl rfl ?_ ?_;(focus (first |(simp only [decide_eq_true_eq,decide_eq_false_iff_not,Bool.not_eq_true',Bool.not_eq_false',Int.ofNat_lt,Int.ofNat_le,Int.ofNat_inj,not_true_eq_false,not_false_eq_true];omega))))) |(refine LOps.ev tT_ok rfl ?_) |(refine kBox ?_;refine LOps.box rfl rfl rfl rfl ?_) |(refine kLoad ?_;first |(refine LOps.ans (AnsL.loadP tT_ok rfl rfl rfl rfl) ?_)) |(refine kLen ?_;first |(refine LOps.ans (AnsL.lenM tT_ok rfl rfl rfl) ?_))) |(refine kWL ?_;first |(refine WL.seq ?_) |(refine WL.region (by kernel_rfl) ?_) |(refine WL.ret ?_) |(refine kCond ?_;first |(refine WL.condT rfl ?_))) |(refine lthen_n ?_) |(refine lthen_r ?_) |(refine LPost.r1 (r := .tmp 2) (.inl rfl) (Res1.tmp rfl) ?_) |(refine PureR.mk ?_)
   all_goals first |(rw [hno];rfl) | trace_state
 obtain ⟨o0,on',hon⟩:∃ o0 on',p.on=o0::on':=by
   cases h:p.on with
   | nil=>rw [h] at c2;simp at c2;omega
   | cons a b=>exact ⟨a,b,rfl⟩
 have hoh:p.on.headD []=o0:=by rw [hon];rfl
 have hg0:(p.on.map PE.vS)[0]?=some (PE.vS o0):=by rw [hon];rfl
 rw [hoh] at hno
 by_cases c3:(o0.length:Int)≤0
 case neg =>
   have hno:=hno (by omega)
   refine LCalls.pure Try.func105 rfl (by kernel_rfl) (by simp) ?_
   repeat' first |(refine kOps ?_;first |(refine LOps.nil ?_) |(refine kG ?_;first |(refine LOps.gT rfl rfl rfl ?_) |(refine LOps.gF rfl rfl rfl ?_) |(refine LOps.gD true rfl rfl rfl ?_ ?_;(focus (first |(simp only [decide_eq_true_eq,decide_eq_false_iff_not,Bool.not_eq_true',Bool.not_eq_false',Int.ofNat_lt,Int.ofNat_le,Int.ofNat_inj,not_true_eq_false,not_false_eq_true];omega)))) |(refine LOps.gD false rfl rfl rfl ?_ ?_;(focus (first |(simp only [decide_eq_true_eq,decide_eq_false_iff_not,Bool.not_eq_true',Bool.not_eq_false',Int.ofNat_lt,Int.ofNat_le,Int.ofNat_inj,not_true_eq_false,not_false_eq_true];omega))))) |(refine LOps.ev tT_ok rfl ?_) |(refine kBox ?_;refine LOps.box rfl rfl rfl rfl ?_) |(refine kLoad ?_;first |(refine LOps.ans (AnsL.loadP tT_ok rfl rfl rfl rfl) ?_)) |(refine kLen ?_;first |(refine LOps.ans (AnsL.lenM tT_ok rfl rfl rfl) ?_)) |(refine kIdx ?_;first |(refine LOps.ans (AnsL.idx (j:=0) tT_ok rfl rfl rfl rfl rfl hg0 rfl rfl) ?_))) |(refine kWL ?_;first |(refine WL.seq ?_) |(refine WL.region (by kernel_rfl) ?_) |(refine WL.ret ?_) |(refine kCond ?_;first |(refine WL.condT rfl ?_))) |(refine lthen_n ?_) |(refine lthen_r ?_) |(refine LPost.r1 (r := .tmp 2) (.inl rfl) (Res1.tmp rfl) ?_) |(refine PureR.mk ?_)
   all_goals first |(rw [hno];rfl) | trace_state
 by_cases c4:(p.wher.length:Int)≤1
 case neg =>
   have hno:=hno (by omega)
   refine LCalls.pure Try.func105 rfl (by kernel_rfl) (by simp) ?_
   repeat' first |(refine kOps ?_;first |(refine LOps.nil ?_) |(refine kG ?_;first |(refine LOps.gT rfl rfl rfl ?_) |(refine LOps.gF rfl rfl rfl ?_) |(refine LOps.gD true rfl rfl rfl ?_ ?_;(focus (first |(simp only [decide_eq_true_eq,decide_eq_false_iff_not,Bool.not_eq_true',Bool.not_eq_false',Int.ofNat_lt,Int.ofNat_le,Int.ofNat_inj,not_true_eq_false,not_false_eq_true];omega)))) |(refine LOps.gD false rfl rfl rfl ?_ ?_;(focus (first |(simp only [decide_eq_true_eq,decide_eq_false_iff_not,Bool.not_eq_true',Bool.not_eq_false',Int.ofNat_lt,Int.ofNat_le,Int.ofNat_inj,not_true_eq_false,not_false_eq_true];omega))))) |(refine LOps.ev tT_ok rfl ?_) |(refine kBox ?_;refine LOps.box rfl rfl rfl rfl ?_) |(refine kLoad ?_;first |(refine LOps.ans (AnsL.loadP tT_ok rfl rfl rfl rfl) ?_)) |(refine kLen ?_;first |(refine LOps.ans (AnsL.lenM tT_ok rfl rfl rfl) ?_)) |(refine kIdx ?_;first |(refine LOps.ans (AnsL.idx (j:=0) tT_ok rfl rfl rfl rfl rfl hg0 rfl rfl) ?_))) |(refine kWL ?_;first |(refine WL.seq ?_) |(refine WL.region (by kernel_rfl) ?_) |(refine WL.ret ?_) |(refine kCond ?_;first |(refine WL.condT rfl ?_))) |(refine lthen_n ?_) |(refine lthen_r ?_) |(refine LPost.r1 (r := .tmp 2) (.inl rfl) (Res1.tmp rfl) ?_) |(refine PureR.mk ?_)
   all_goals first |(rw [hno];rfl) | trace_state
 by_cases c5:(p.order.length:Int)≤12
 case neg =>
   have hno:=hno (by omega)
   refine LCalls.pure Try.func105 rfl (by kernel_rfl) (by simp) ?_
   repeat' first |(refine kOps ?_;first |(refine LOps.nil ?_) |(refine kG ?_;first |(refine LOps.gT rfl rfl rfl ?_) |(refine LOps.gD false rfl rfl rfl ?_ ?_;(focus (first |(simp only [decide_eq_true_eq,decide_eq_false_iff_not,Bool.not_eq_true',Bool.not_eq_false',Int.ofNat_lt,Int.ofNat_le,Int.ofNat_inj,not_true_eq_false,not_false_eq_true];omega))))) |(refine LOps.ev tT_ok rfl ?_) |(refine kBox ?_;refine LOps.box rfl rfl rfl rfl ?_) |(refine kLoad ?_;first |(refine LOps.ans (AnsL.loadP tT_ok rfl rfl rfl rfl) ?_)) |(refine kLen ?_;first |(refine LOps.ans (AnsL.lenM tT_ok rfl rfl rfl) ?_)) |(refine kIdx ?_;first |(refine LOps.ans (AnsL.idx (j:=0) tT_ok rfl rfl rfl rfl rfl hg0 rfl rfl) ?_))) |(refine kWL ?_;first |(refine WL.seq ?_) |(refine WL.region (by kernel_rfl) ?_) |(refine WL.ret ?_) |(refine kCond ?_;first |(refine WL.condT' rfl ?_ ?_;(focus (first |(simp only [decide_eq_true_eq,decide_eq_false_iff_not,Bool.not_eq_true',Bool.not_eq_false',Int.ofNat_lt,Int.ofNat_le,Int.ofNat_inj,not_true_eq_false,not_false_eq_true];omega)))))) |(refine lthen_n ?_) |(refine lthen_r ?_) |(refine LPost.r1 (r := .tmp 2) (.inl rfl) (Res1.tmp rfl) ?_) |(refine PureR.mk ?_)
   all_goals first |(rw [hno];rfl) | trace_state
 by_cases c6:(1:Int)≤p.items.length
 case neg =>
   have hno:=hno (by omega)
   refine LCalls.pure Try.func105 rfl (by kernel_rfl) (by simp) ?_
   repeat' first |(refine kOps ?_;first |(refine LOps.nil ?_) |(refine kG ?_;first |(refine LOps.gT rfl rfl rfl ?_) |(refine LOps.gF rfl rfl rfl ?_) |(refine LOps.gD false rfl rfl rfl ?_ ?_;(focus (first |(exact decide_eq_false (by assumption)) |(simp only [decide_eq_true_eq,decide_eq_false_iff_not,Bool.not_eq_true',Bool.not_eq_false',Int.ofNat_lt,Int.ofNat_le,Int.ofNat_inj,not_true_eq_false,not_false_eq_true];omega))))) |(refine LOps.ev tT_ok rfl ?_) |(refine kBox ?_;refine LOps.box rfl rfl rfl rfl ?_) |(refine kLoad ?_;first |(refine LOps.ans (AnsL.loadP tT_ok rfl rfl rfl rfl) ?_)) |(refine kLen ?_;first |(refine LOps.ans (AnsL.lenM tT_ok rfl rfl rfl) ?_)) |(refine kIdx ?_;first |(refine LOps.ans (AnsL.idx (j:=0) tT_ok rfl rfl rfl rfl rfl hg0 rfl rfl) ?_))) |(refine kWL ?_;first |(refine WL.seq ?_) |(refine WL.region (by kernel_rfl) ?_) |(refine WL.skip ?_) |(refine WL.ret ?_) |(refine kCond ?_;first |(refine WL.condF' rfl ?_ ?_;(focus (first |(simp only [decide_eq_true_eq,decide_eq_false_iff_not,Bool.not_eq_true',Bool.not_eq_false',Int.ofNat_lt,Int.ofNat_le,Int.ofNat_inj,not_true_eq_false,not_false_eq_true];omega)))))) |(refine lthen_n ?_) |(refine LPost.r1 (r := .tmp 2) (.inl rfl) (Res1.tmp rfl) ?_) |(refine PureR.mk ?_)
   all_goals first |(rw [hno];rfl) | trace_state
 by_cases c7:(p.items.length:Int)≤12
 case neg =>
   have hno:=hno (by omega)
   refine LCalls.pure Try.func105 rfl (by kernel_rfl) (by simp) ?_
   repeat' first |(refine kOps ?_;first |(refine LOps.nil ?_) |(refine kG ?_;first |(refine LOps.gT rfl rfl rfl ?_) |(refine LOps.gF rfl rfl rfl ?_) |(refine LOps.gD true rfl rfl rfl ?_ ?_;(focus (first |(exact decide_eq_true (by assumption))))) |(refine LOps.gD false rfl rfl rfl ?_ ?_;(focus (first |(exact decide_eq_false (by assumption)) |(simp only [decide_eq_true_eq,decide_eq_false_iff_not,Bool.not_eq_true',Bool.not_eq_false',Int.ofNat_lt,Int.ofNat_le,Int.ofNat_inj,not_true_eq_false,not_false_eq_true];omega))))) |(refine LOps.ev tT_ok rfl ?_) |(refine kBox ?_;refine LOps.box rfl rfl rfl rfl ?_) |(refine kLoad ?_;first |(refine LOps.ans (AnsL.loadP tT_ok rfl rfl rfl rfl) ?_)) |(refine kLen ?_;first |(refine LOps.ans (AnsL.lenM tT_ok rfl rfl rfl) ?_)) |(refine kIdx ?_;first |(refine LOps.ans (AnsL.idx (j:=0) tT_ok rfl rfl rfl rfl rfl hg0 rfl rfl) ?_))) |(refine kWL ?_;first |(refine WL.seq ?_) |(refine WL.region (by kernel_rfl) ?_) |(refine WL.skip ?_) |(refine WL.ret ?_) |(refine kCond ?_;first |(refine WL.condF' rfl ?_ ?_;(focus (first |(simp only [decide_eq_true_eq,decide_eq_false_iff_not,Bool.not_eq_true',Bool.not_eq_false',Int.ofNat_lt,Int.ofNat_le,Int.ofNat_inj,not_true_eq_false,not_false_eq_true];omega)))))) |(refine lthen_n ?_) |(refine LPost.r1 (r := .tmp 2) (.inl rfl) (Res1.tmp rfl) ?_) |(refine PureR.mk ?_)
   all_goals first |(rw [hno];rfl) | trace_state
 by_cases c8:(p.names.length:Int)=p.items.length
 case neg =>
   have hno:=hno (by omega)
   refine LCalls.pure Try.func105 rfl (by kernel_rfl) (by simp) ?_
   repeat' first |(refine kOps ?_;first |(refine LOps.nil ?_) |(refine kG ?_;first |(refine LOps.gT rfl rfl rfl ?_) |(refine LOps.gF rfl rfl rfl ?_) |(refine LOps.gD true rfl rfl rfl ?_ ?_;(focus (first |(exact decide_eq_true (by assumption))))) |(refine LOps.gD false rfl rfl rfl ?_ ?_;(focus (first |(exact decide_eq_false (by assumption)) |(simp only [decide_eq_true_eq,decide_eq_false_iff_not,Bool.not_eq_true',Bool.not_eq_false',Int.ofNat_lt,Int.ofNat_le,Int.ofNat_inj,not_true_eq_false,not_false_eq_true];omega))))) |(refine LOps.ev tT_ok rfl ?_) |(refine kBox ?_;refine LOps.box rfl rfl rfl rfl ?_) |(refine kLoad ?_;first |(refine LOps.ans (AnsL.loadP tT_ok rfl rfl rfl rfl) ?_)) |(refine kLen ?_;first |(refine LOps.ans (AnsL.lenM tT_ok rfl rfl rfl) ?_)) |(refine kIdx ?_;first |(refine LOps.ans (AnsL.idx (j:=0) tT_ok rfl rfl rfl rfl rfl hg0 rfl rfl) ?_))) |(refine kWL ?_;first |(refine WL.seq ?_) |(refine WL.region (by kernel_rfl) ?_) |(refine WL.skip ?_) |(refine WL.ret ?_) |(refine kCond ?_;first |(refine WL.condF' rfl ?_ ?_;(focus (first |(simp only [decide_eq_true_eq,decide_eq_false_iff_not,Bool.not_eq_true',Bool.not_eq_false',Int.ofNat_lt,Int.ofNat_le,Int.ofNat_inj,not_true_eq_false,not_false_eq_true];omega)))))) |(refine lthen_n ?_) |(refine LPost.r1 (r := .tmp 2) (.inl rfl) (Res1.tmp rfl) ?_) |(refine PureR.mk ?_)
   all_goals first |(rw [hno];rfl) | trace_state
 by_cases c9 : -1≤p.limit
 case neg =>
   have hno:=hno (by omega)
   refine LCalls.pure Try.func105 rfl (by kernel_rfl) (by simp) ?_
   repeat' first |(refine kOps ?_;first |(refine LOps.nil ?_) |(refine kG ?_;first |(refine LOps.gT rfl rfl rfl ?_) |(refine LOps.gF rfl rfl rfl ?_) |(refine LOps.gD true rfl rfl rfl ?_ ?_;(focus (first |(exact decide_eq_true (by assumption))))) |(refine LOps.gD false rfl rfl rfl ?_ ?_;(focus (first |(exact decide_eq_false (by assumption)) |(simp only [decide_eq_true_eq,decide_eq_false_iff_not,Bool.not_eq_true',Bool.not_eq_false',Int.ofNat_lt,Int.ofNat_le,Int.ofNat_inj,not_true_eq_false,not_false_eq_true];omega))))) |(refine LOps.ev tT_ok rfl ?_) |(refine kBox ?_;refine LOps.box rfl rfl rfl rfl ?_) |(refine kLoad ?_;first |(refine LOps.ans (AnsL.loadP tT_ok rfl rfl rfl rfl) ?_)) |(refine kLen ?_;first |(refine LOps.ans (AnsL.lenM tT_ok rfl rfl rfl) ?_)) |(refine kIdx ?_;first |(refine LOps.ans (AnsL.idx (j:=0) tT_ok rfl rfl rfl rfl rfl hg0 rfl rfl) ?_))) |(refine kWL ?_;first |(refine WL.seq ?_) |(refine WL.region (by kernel_rfl) ?_) |(refine WL.skip ?_) |(refine WL.ret ?_) |(refine kCond ?_;first |(refine WL.condF' rfl ?_ ?_;(focus (first |(simp only [decide_eq_true_eq,decide_eq_false_iff_not,Bool.not_eq_true',Bool.not_eq_false',Int.ofNat_lt,Int.ofNat_le,Int.ofNat_inj,not_true_eq_false,not_false_eq_true];omega)))))) |(refine lthen_n ?_) |(refine LPost.r1 (r := .tmp 2) (.inl rfl) (Res1.tmp rfl) ?_) |(refine PureR.mk ?_)
   all_goals first |(rw [hno];rfl) | trace_state
 have hyes:p.form=(p.on.all (fun l=>decide (l.length≤1))&&p.names.all nameOk):=PL.form_yes ⟨by omega,by omega,by omega,by rw [hoh];omega,by omega,by omega,by omega,by omega,by omega,c9⟩
 have hA:=fun t=>containsFuncPExprS_v p.on (fun l => !decide (l.length≤1)) _ [] (by omega) t ok133 rfl (fun x _ ys=>implhasPlanForm1_v x _)
 have hB:=fun t=>containsFuncString_v p.names (fun l => !nameOk l) _ [] (by omega) t ok135 rfl (fun x _ ys=>implhasPlanForm2_v x _)
 rw [any_not] at hA hB
 generalize p.on.all (fun l=>decide (l.length≤1))=b1 at hA hyes
 generalize p.names.all nameOk=b2 at hB hyes
 cases b1
 all_goals cases b2
 all_goals
   refine LCalls.pure Try.func105 rfl (by kernel_rfl) (by simp) ?_
   repeat' first |(refine kOps ?_;first |(refine LOps.nil ?_) |(refine kG ?_;first |(refine LOps.gT rfl rfl rfl ?_) |(refine LOps.gF rfl rfl rfl ?_) |(refine LOps.gD true rfl rfl rfl ?_ ?_;(focus (first |(exact decide_eq_true (by assumption))))) |(refine LOps.gD false rfl rfl rfl ?_ ?_;(focus (first |(simp only [decide_eq_true_eq,decide_eq_false_iff_not,Bool.not_eq_true',Bool.not_eq_false',Int.ofNat_lt,Int.ofNat_le,Int.ofNat_inj,not_true_eq_false,not_false_eq_true];omega))))) |(refine LOps.ev tT_ok rfl ?_) |(refine kBox ?_;refine LOps.box rfl rfl rfl rfl ?_) |(refine kLoad ?_;first |(refine LOps.ans (AnsL.loadP tT_ok rfl rfl rfl rfl) ?_)) |(refine kLen ?_;first |(refine LOps.ans (AnsL.lenM tT_ok rfl rfl rfl) ?_)) |(refine kIdx ?_;first |(refine LOps.ans (AnsL.idx (j:=0) tT_ok rfl rfl rfl rfl rfl hg0 rfl rfl) ?_)) |(refine kCallN 132 ?_;first |(refine LOps.ans (AnsL.callP rfl rfl rfl (ok132) (hA _)) ?_)) |(refine kCallN 134 ?_;first |(refine LOps.ans (AnsL.callP rfl rfl rfl (ok134) (hB _)) ?_))) |(refine kWL ?_;first |(refine WL.seq ?_) |(refine WL.region (by kernel_rfl) ?_) |(refine WL.skip ?_) |(refine WL.ret ?_) |(refine kCond ?_;first |(refine WL.condF' rfl ?_ ?_;(focus (first |(simp only [decide_eq_true_eq,decide_eq_false_iff_not,Bool.not_eq_true',Bool.not_eq_false',Int.ofNat_lt,Int.ofNat_le,Int.ofNat_inj,not_true_eq_false,not_false_eq_true];omega)))))) |(refine lthen_n ?_) |(refine LPost.r1 (r := .tmp 2) (.inl rfl) (Res1.tmp rfl) ?_) |(refine PureR.mk ?_)
   all_goals first |(rw [hyes];rfl) | trace_state
set_option maxHeartbeats 4000000 in
theorem specl20Bounds_v (c:Cat) (p:PL) (hc:c.wt≤1048576) (hw:wgt p.v≤1048576) (s:S):VCalls Try.prog 117 [c.toV,p.v] s (fun v s'=>v = .bool (p.ok c)∧s'=s):=by
 have hon1:=PL.on_le p
 have hnl:p.names.length≤16777216:=by
   have e:=PL.wgt_eq p
   have:=wgt_len sV p.names
   omega
 have hno:¬ (1≤p.tables.length∧p.tables.length≤3∧p.on.length=p.tables.length∧(p.on.headD []).length=0∧p.wher.length≤1∧p.order.length≤12∧1≤p.items.length∧p.items.length≤12∧p.names.length=p.items.length ∧ -1≤p.limit)→p.form=false:=fun h=>PL.form_no h
 have hT:=fun t=>specl1In_v p.tables.length 1 3 t
 have hI:=fun t=>specl1In_v p.items.length 1 12 t
 by_cases c0:((1:Int)≤p.tables.length∧(p.tables.length:Int)≤3)
 case neg =>
   have hno:=hno (by omega)
   rw [show inR p.tables.length 1 3=false by simp only [inR,Bool.and_eq_false_iff,decide_eq_false_iff_not];omega] at hT
   refine LCalls.pure Try.func117 rfl (by kernel_rfl) (by simp) ?_
   repeat' first |(refine kOps ?_;first |(refine LOps.nil ?_) |(refine kG ?_;first |(refine LOps.gF rfl rfl rfl ?_)) |(refine LOps.ev tT_ok rfl ?_) |(refine kBox ?_;refine LOps.box rfl rfl rfl rfl ?_) |(refine kLoad ?_;first |(refine LOps.ans (AnsL.loadP tT_ok rfl rfl rfl rfl) ?_)) |(refine kLen ?_;first |(refine LOps.ans (AnsL.lenM tT_ok rfl rfl rfl) ?_)) |(refine kCallN 36 ?_;first |(refine LOps.ans (AnsL.callP rfl rfl rfl (ok36) (hT _)) ?_))) |(refine kWL ?_;first |(refine WL.seq ?_) |(refine WL.region (by kernel_rfl) ?_) |(refine WL.ret ?_) |(refine kCond ?_;first |(refine WL.condT rfl ?_))) |(refine lthen_n ?_) |(refine lthen_r ?_) |(refine LPost.r1 (r := .tmp 4) (.inl rfl) (Res1.tmp rfl) ?_) |(refine PureR.mk ?_)
   all_goals first |(simp only [PL.ok];rw [hno];rfl) | trace_state
 rw [show inR p.tables.length 1 3=true by simp only [inR,Bool.and_eq_true,decide_eq_true_eq];omega] at hT
 by_cases c1:(p.on.length:Int)=p.tables.length
 case neg =>
   have hno:=hno (by omega)
   refine LCalls.pure Try.func117 rfl (by kernel_rfl) (by simp) ?_
   repeat' first |(refine kOps ?_;first |(refine LOps.nil ?_) |(refine kG ?_;first |(refine LOps.gT rfl rfl rfl ?_) |(refine LOps.gF rfl rfl rfl ?_) |(refine LOps.gD true rfl rfl rfl ?_ ?_;(focus (first |(simp only [decide_eq_true_eq,decide_eq_false_iff_not,Bool.not_eq_true',Bool.not_eq_false',Int.ofNat_lt,Int.ofNat_le,Int.ofNat_inj,not_true_eq_false,not_false_eq_true];omega))))) |(refine LOps.ev tT_ok rfl ?_) |(refine kBox ?_;refine LOps.box rfl rfl rfl rfl ?_) |(refine kLoad ?_;first |(refine LOps.ans (AnsL.loadP tT_ok rfl rfl rfl rfl) ?_)) |(refine kLen ?_;first |(refine LOps.ans (AnsL.lenM tT_ok rfl rfl rfl) ?_)) |(refine kCallN 36 ?_;first |(refine LOps.ans (AnsL.callP rfl rfl rfl (ok36) (hT _)) ?_))) |(refine kWL ?_;first |(refine WL.seq ?_) |(refine WL.region (by kernel_rfl) ?_) |(refine WL.ret ?_) |(refine kCond ?_;first |(refine WL.condT rfl ?_))) |(refine lthen_n ?_) |(refine lthen_r ?_) |(refine LPost.r1 (r := .tmp 4) (.inl rfl) (Res1.tmp rfl) ?_) |(refine PureR.mk ?_)
   all_goals first |(simp only [PL.ok];rw [hno];rfl) | trace_state
 obtain ⟨o0,on',hon⟩:∃ o0 on',p.on=o0::on':=by
   cases h:p.on with
   | nil=>rw [h] at c1;simp at c1;omega
   | cons a b=>exact ⟨a,b,rfl⟩
 have hoh:p.on.headD []=o0:=by rw [hon];rfl
 have hg0:(p.on.map PE.vS)[0]?=some (PE.vS o0):=by rw [hon];rfl
 rw [hoh] at hno
 by_cases c2:(o0.length:Int)≤0
 case neg =>
   have hno:=hno (by omega)
   refine LCalls.pure Try.func117 rfl (by kernel_rfl) (by simp) ?_
   repeat' first |(refine kOps ?_;first |(refine LOps.nil ?_) |(refine kG ?_;first |(refine LOps.gT rfl rfl rfl ?_) |(refine LOps.gF rfl rfl rfl ?_) |(refine LOps.gD true rfl rfl rfl ?_ ?_;(focus (first |(simp only [decide_eq_true_eq,decide_eq_false_iff_not,Bool.not_eq_true',Bool.not_eq_false',Int.ofNat_lt,Int.ofNat_le,Int.ofNat_inj,not_true_eq_false,not_false_eq_true];omega)))) |(refine LOps.gD false rfl rfl rfl ?_ ?_;(focus (first |(simp only [decide_eq_true_eq,decide_eq_false_iff_not,Bool.not_eq_true',Bool.not_eq_false',Int.ofNat_lt,Int.ofNat_le,Int.ofNat_inj,not_true_eq_false,not_false_eq_true];omega))))) |(refine LOps.ev tT_ok rfl ?_) |(refine kBox ?_;refine LOps.box rfl rfl rfl rfl ?_) |(refine kLoad ?_;first |(refine LOps.ans (AnsL.loadP tT_ok rfl rfl rfl rfl) ?_)) |(refine kLen ?_;first |(refine LOps.ans (AnsL.lenM tT_ok rfl rfl rfl) ?_)) |(refine kIdx ?_;first |(refine LOps.ans (AnsL.idx (j:=0) tT_ok rfl rfl rfl rfl rfl hg0 rfl rfl) ?_)) |(refine kCallN 36 ?_;first |(refine LOps.ans (AnsL.callP rfl rfl rfl (ok36) (hT _)) ?_))) |(refine kWL ?_;first |(refine WL.seq ?_) |(refine WL.region (by kernel_rfl) ?_) |(refine WL.ret ?_) |(refine kCond ?_;first |(refine WL.condT rfl ?_))) |(refine lthen_n ?_) |(refine lthen_r ?_) |(refine LPost.r1 (r := .tmp 4) (.inl rfl) (Res1.tmp rfl) ?_) |(refine PureR.mk ?_)
   all_goals first |(simp only [PL.ok];rw [hno];rfl) | trace_state
 by_cases c3:(p.wher.length:Int)≤1
 case neg =>
   have hno:=hno (by omega)
   refine LCalls.pure Try.func117 rfl (by kernel_rfl) (by simp) ?_
   repeat' first |(refine kOps ?_;first |(refine LOps.nil ?_) |(refine kG ?_;first |(refine LOps.gT rfl rfl rfl ?_) |(refine LOps.gF rfl rfl rfl ?_) |(refine LOps.gD true rfl rfl rfl ?_ ?_;(focus (first |(simp only [decide_eq_true_eq,decide_eq_false_iff_not,Bool.not_eq_true',Bool.not_eq_false',Int.ofNat_lt,Int.ofNat_le,Int.ofNat_inj,not_true_eq_false,not_false_eq_true];omega)))) |(refine LOps.gD false rfl rfl rfl ?_ ?_;(focus (first |(simp only [decide_eq_true_eq,decide_eq_false_iff_not,Bool.not_eq_true',Bool.not_eq_false',Int.ofNat_lt,Int.ofNat_le,Int.ofNat_inj,not_true_eq_false,not_false_eq_true];omega))))) |(refine LOps.ev tT_ok rfl ?_) |(refine kBox ?_;refine LOps.box rfl rfl rfl rfl ?_) |(refine kLoad ?_;first |(refine LOps.ans (AnsL.loadP tT_ok rfl rfl rfl rfl) ?_)) |(refine kLen ?_;first |(refine LOps.ans (AnsL.lenM tT_ok rfl rfl rfl) ?_)) |(refine kIdx ?_;first |(refine LOps.ans (AnsL.idx (j:=0) tT_ok rfl rfl rfl rfl rfl hg0 rfl rfl) ?_)) |(refine kCallN 36 ?_;first |(refine LOps.ans (AnsL.callP rfl rfl rfl (ok36) (hT _)) ?_))) |(refine kWL ?_;first |(refine WL.seq ?_) |(refine WL.region (by kernel_rfl) ?_) |(refine WL.ret ?_) |(refine kCond ?_;first |(refine WL.condT rfl ?_))) |(refine lthen_n ?_) |(refine lthen_r ?_) |(refine LPost.r1 (r := .tmp 4) (.inl rfl) (Res1.tmp rfl) ?_) |(refine PureR.mk ?_)
   all_goals first |(simp only [PL.ok];rw [hno];rfl) | trace_state
 by_cases c4:(p.order.length:Int)≤12
 case neg =>
   have hno:=hno (by omega)
   refine LCalls.pure Try.func117 rfl (by kernel_rfl) (by simp) ?_
   repeat' first |(refine kOps ?_;first |(refine LOps.nil ?_) |(refine kG ?_;first |(refine LOps.gT rfl rfl rfl ?_) |(refine LOps.gF rfl rfl rfl ?_) |(refine LOps.gD true rfl rfl rfl ?_ ?_;(focus (first |(simp only [decide_eq_true_eq,decide_eq_false_iff_not,Bool.not_eq_true',Bool.not_eq_false',Int.ofNat_lt,Int.ofNat_le,Int.ofNat_inj,not_true_eq_false,not_false_eq_true];omega)))) |(refine LOps.gD false rfl rfl rfl ?_ ?_;(focus (first |(simp only [decide_eq_true_eq,decide_eq_false_iff_not,Bool.not_eq_true',Bool.not_eq_false',Int.ofNat_lt,Int.ofNat_le,Int.ofNat_inj,not_true_eq_false,not_false_eq_true];omega))))) |(refine LOps.ev tT_ok rfl ?_) |(refine kBox ?_;refine LOps.box rfl rfl rfl rfl ?_) |(refine kLoad ?_;first |(refine LOps.ans (AnsL.loadP tT_ok rfl rfl rfl rfl) ?_)) |(refine kLen ?_;first |(refine LOps.ans (AnsL.lenM tT_ok rfl rfl rfl) ?_)) |(refine kIdx ?_;first |(refine LOps.ans (AnsL.idx (j:=0) tT_ok rfl rfl rfl rfl rfl hg0 rfl rfl) ?_)) |(refine kCallN 36 ?_;first |(refine LOps.ans (AnsL.callP rfl rfl rfl (ok36) (hT _)) ?_))) |(refine kWL ?_;first |(refine WL.seq ?_) |(refine WL.region (by kernel_rfl) ?_) |(refine WL.ret ?_) |(refine kCond ?_;first |(refine WL.condT rfl ?_))) |(refine lthen_n ?_) |(refine lthen_r ?_) |(refine LPost.r1 (r := .tmp 4) (.inl rfl) (Res1.tmp rfl) ?_) |(refine PureR.mk ?_)
   all_goals first |(simp only [PL.ok];rw [hno];rfl) | trace_state
 by_cases c5:((1:Int)≤p.items.length∧(p.items.length:Int)≤12)
 case neg =>
   have hno:=hno (by omega)
   rw [show inR p.items.length 1 12=false by simp only [inR,Bool.and_eq_false_iff,decide_eq_false_iff_not];omega] at hI
   refine LCalls.pure Try.func117 rfl (by kernel_rfl) (by simp) ?_
   repeat' first |(refine kOps ?_;first |(refine LOps.nil ?_) |(refine kG ?_;first |(refine LOps.gT rfl rfl rfl ?_) |(refine LOps.gF rfl rfl rfl ?_) |(refine LOps.gD false rfl rfl rfl ?_ ?_;(focus (first |(simp only [decide_eq_true_eq,decide_eq_false_iff_not,Bool.not_eq_true',Bool.not_eq_false',Int.ofNat_lt,Int.ofNat_le,Int.ofNat_inj,not_true_eq_false,not_false_eq_true];omega))))) |(refine LOps.ev tT_ok rfl ?_) |(refine kBox ?_;refine LOps.box rfl rfl rfl rfl ?_) |(refine kLoad ?_;first |(refine LOps.ans (AnsL.loadP tT_ok rfl rfl rfl rfl) ?_)) |(refine kLen ?_;first |(refine LOps.ans (AnsL.lenM tT_ok rfl rfl rfl) ?_)) |(refine kIdx ?_;first |(refine LOps.ans (AnsL.idx (j:=0) tT_ok rfl rfl rfl rfl rfl hg0 rfl rfl) ?_)) |(refine kCallN 36 ?_;first |(refine LOps.ans (AnsL.callP rfl rfl rfl (ok36) (hT _)) ?_) |(refine LOps.ans (AnsL.callP rfl rfl rfl (ok36) (hI _)) ?_))) |(refine kWL ?_;first |(refine WL.seq ?_) |(refine WL.region (by kernel_rfl) ?_) |(refine WL.ret ?_) |(refine kCond ?_;first |(refine WL.condT rfl ?_))) |(refine lthen_n ?_) |(refine lthen_r ?_) |(refine LPost.r1 (r := .tmp 4) (.inl rfl) (Res1.tmp rfl) ?_) |(refine PureR.mk ?_)
   all_goals first |(simp only [PL.ok];rw [hno];rfl) | trace_state
 rw [show inR p.items.length 1 12=true by simp only [inR,Bool.and_eq_true,decide_eq_true_eq];omega] at hI
 by_cases c6:(p.names.length:Int)=p.items.length
 case neg =>
   have hno:=hno (by omega)
   refine LCalls.pure Try.func117 rfl (by kernel_rfl) (by simp) ?_
   repeat' first |(refine kOps ?_;first |(refine LOps.nil ?_) |(refine kG ?_;first |(refine LOps.gT rfl rfl rfl ?_) |(refine LOps.gF rfl rfl rfl ?_) |(refine LOps.gD true rfl rfl rfl ?_ ?_;(focus (first |(simp only [decide_eq_true_eq,decide_eq_false_iff_not,Bool.not_eq_true',Bool.not_eq_false',Int.ofNat_lt,Int.ofNat_le,Int.ofNat_inj,not_true_eq_false,not_false_eq_true];omega)))) |(refine LOps.gD false rfl rfl rfl ?_ ?_;(focus (first |(simp only [decide_eq_true_eq,decide_eq_false_iff_not,Bool.not_eq_true',Bool.not_eq_false',Int.ofNat_lt,Int.ofNat_le,Int.ofNat_inj,not_true_eq_false,not_false_eq_true];omega))))) |(refine LOps.ev tT_ok rfl ?_) |(refine kBox ?_;refine LOps.box rfl rfl rfl rfl ?_) |(refine kLoad ?_;first |(refine LOps.ans (AnsL.loadP tT_ok rfl rfl rfl rfl) ?_)) |(refine kLen ?_;first |(refine LOps.ans (AnsL.lenM tT_ok rfl rfl rfl) ?_)) |(refine kIdx ?_;first |(refine LOps.ans (AnsL.idx (j:=0) tT_ok rfl rfl rfl rfl rfl hg0 rfl rfl) ?_)) |(refine kCallN 36 ?_;first |(refine LOps.ans (AnsL.callP rfl rfl rfl (ok36) (hT _)) ?_) |(refine LOps.ans (AnsL.callP rfl rfl rfl (ok36) (hI _)) ?_))) |(refine kWL ?_;first |(refine WL.seq ?_) |(refine WL.region (by kernel_rfl) ?_) |(refine WL.ret ?_) |(refine kCond ?_;first |(refine WL.condT rfl ?_))) |(refine lthen_n ?_) |(refine lthen_r ?_) |(refine LPost.r1 (r := .tmp 4) (.inl rfl) (Res1.tmp rfl) ?_) |(refine PureR.mk ?_)
   all_goals first |(simp only [PL.ok];rw [hno];rfl) | trace_state
 by_cases c7 : -1≤p.limit
 case neg =>
   have hno:=hno (by omega)
   refine LCalls.pure Try.func117 rfl (by kernel_rfl) (by simp) ?_
   repeat' first |(refine kOps ?_;first |(refine LOps.nil ?_) |(refine kG ?_;first |(refine LOps.gT rfl rfl rfl ?_) |(refine LOps.gD false rfl rfl rfl ?_ ?_;(focus (first |(simp only [decide_eq_true_eq,decide_eq_false_iff_not,Bool.not_eq_true',Bool.not_eq_false',Int.ofNat_lt,Int.ofNat_le,Int.ofNat_inj,not_true_eq_false,not_false_eq_true];omega))))) |(refine LOps.ev tT_ok rfl ?_) |(refine kBox ?_;refine LOps.box rfl rfl rfl rfl ?_) |(refine kLoad ?_;first |(refine LOps.ans (AnsL.loadP tT_ok rfl rfl rfl rfl) ?_)) |(refine kLen ?_;first |(refine LOps.ans (AnsL.lenM tT_ok rfl rfl rfl) ?_)) |(refine kIdx ?_;first |(refine LOps.ans (AnsL.idx (j:=0) tT_ok rfl rfl rfl rfl rfl hg0 rfl rfl) ?_)) |(refine kCallN 36 ?_;first |(refine LOps.ans (AnsL.callP rfl rfl rfl (ok36) (hT _)) ?_) |(refine LOps.ans (AnsL.callP rfl rfl rfl (ok36) (hI _)) ?_))) |(refine kWL ?_;first |(refine WL.seq ?_) |(refine WL.region (by kernel_rfl) ?_) |(refine WL.ret ?_) |(refine kCond ?_;first |(refine WL.condT' rfl ?_ ?_;(focus (first |(simp only [decide_eq_true_eq,decide_eq_false_iff_not,Bool.not_eq_true',Bool.not_eq_false',Int.ofNat_lt,Int.ofNat_le,Int.ofNat_inj,not_true_eq_false,not_false_eq_true];omega)))))) |(refine lthen_n ?_) |(refine lthen_r ?_) |(refine LPost.r1 (r := .tmp 4) (.inl rfl) (Res1.tmp rfl) ?_) |(refine PureR.mk ?_)
   all_goals first |(simp only [PL.ok];rw [hno];rfl) | trace_state
 have hyes:p.form=(p.on.all (fun l=>decide (l.length≤1))&&p.names.all nameOk):=PL.form_yes ⟨by omega,by omega,by omega,by rw [hoh];omega,by omega,by omega,by omega,by omega,by omega,c7⟩
 refine LCalls.pure Try.func117 rfl (by kernel_rfl) (by simp) ?_
 repeat' first |(refine kOps ?_;first |(refine LOps.nil ?_) |(refine kG ?_;first |(refine LOps.gT rfl rfl rfl ?_) |(refine LOps.gD false rfl rfl rfl ?_ ?_;(focus (first |(simp only [decide_eq_true_eq,decide_eq_false_iff_not,Bool.not_eq_true',Bool.not_eq_false',Int.ofNat_lt,Int.ofNat_le,Int.ofNat_inj,not_true_eq_false,not_false_eq_true];omega))))) |(refine LOps.ev tT_ok rfl ?_) |(refine kBox ?_;refine LOps.box rfl rfl rfl rfl ?_) |(refine kLoad ?_;first |(refine LOps.ans (AnsL.loadP tT_ok rfl rfl rfl rfl) ?_)) |(refine kLen ?_;first |(refine LOps.ans (AnsL.lenM tT_ok rfl rfl rfl) ?_)) |(refine kIdx ?_;first |(refine LOps.ans (AnsL.idx (j:=0) tT_ok rfl rfl rfl rfl rfl hg0 rfl rfl) ?_)) |(refine kCallN 36 ?_;first |(refine LOps.ans (AnsL.callP rfl rfl rfl (ok36) (hT _)) ?_) |(refine LOps.ans (AnsL.callP rfl rfl rfl (ok36) (hI _)) ?_))) |(refine kWL ?_;first |(refine WL.seq ?_) |(refine WL.region (by kernel_rfl) ?_) |(refine WL.block ?_) |(refine WL.skip ?_) |(refine kCond ?_;first |(refine WL.condF' rfl ?_ ?_;(focus (first |(simp only [decide_eq_true_eq,decide_eq_false_iff_not,Bool.not_eq_true',Bool.not_eq_false',Int.ofNat_lt,Int.ofNat_le,Int.ofNat_inj,not_true_eq_false,not_false_eq_true];omega)))))) |(refine lthen_n ?_)
 have hall:p.on.all (fun l=>decide (l.length≤1))=(p.on.drop 0).all (fun l=>decide (l.length≤1)):=by simp
 refine WL.loopD (fun i:Nat=>p.on.length - i) (fun i=>[(2,.ptr (s.next+0) 0),(3,.ptr (s.next+1) 0),(5,.int .i64 (i:Int))]) (fun i=>[.var [.sl 0 (c.tables.map Tab.toV)],.var p.v.cells])
   (fun i=>i≤p.on.length∧(p.on.take i).all (fun l=>decide (l.length≤1))=true) 2 0 ⟨by simp,by simp⟩ (fun _=>rfl) ⟨rfl,rfl,rfl,trivial⟩ rfl (fun i hi=>?_) (fun i hi=>?_)
 · simp [UnderK,UnderX,Own.under,V.under,V.underL,PL.v,V.cells]
 obtain ⟨hi,ha⟩:=hi
 rcases Nat.lt_or_ge i p.on.length with hlt | hge
 · have hga:(p.on.map PE.vS)[i]?=some (PE.vS p.on[i]):=by rw [List.getElem?_map,List.getElem?_eq_getElem hlt];rfl
   have hst:=all_take (p:=fun l:List PE=>decide (l.length≤1)) hlt
   rw [ha,Bool.true_and] at hst
   by_cases hl:(p.on[i].length:Int)≤1
   · rw [decide_eq_true (by omega)] at hst
     generalize p.on[i]=l at hga hl
     repeat' first |(refine kOps ?_;first |(refine LOps.nil ?_) |(refine LOps.ev tT_ok rfl ?_) |(refine kLoad ?_;first |(refine LOps.ans (AnsL.loadP tT_ok rfl rfl rfl rfl) ?_)) |(refine kLen ?_;first |(refine LOps.ans (AnsL.lenM tT_ok rfl rfl rfl) ?_)) |(refine kBin ?_;first |(refine LOps.ans (AnsL.add rfl rfl ?_) ?_;(focus (constructor <;> omega)))) |(refine kIdx ?_;first |(refine LOps.ans (AnsL.idx tT_ok rfl rfl rfl rfl rfl hga rfl rfl) ?_))) |(refine kWL ?_;first |(refine WL.seq ?_) |(refine WL.region (by kernel_rfl) ?_) |(refine WL.block ?_) |(refine WL.skip ?_) |(refine kCond ?_;first |(refine WL.condT' rfl ?_ ?_;(focus (first |(simp only [decide_eq_true_eq,decide_eq_false_iff_not,Bool.not_eq_true',Bool.not_eq_false',Int.ofNat_lt,Int.ofNat_le,Int.ofNat_inj,not_true_eq_false,not_false_eq_true];omega)))) |(refine WL.condF' rfl ?_ ?_;(focus (first |(simp only [decide_eq_true_eq,decide_eq_false_iff_not,Bool.not_eq_true',Bool.not_eq_false',Int.ofNat_lt,Int.ofNat_le,Int.ofNat_inj,not_true_eq_false,not_false_eq_true];omega)))))) |(refine lthen_n ?_) |(refine lblock_n ?_)
     all_goals
       refine lbackD.of (i+1) ?_ ?_ ?_ ?_
       · first | omega |(refine ⟨?_,?_⟩;(focus (first | omega |(simp;omega)));(first | omega |(simp_all [hst] <;> fail) |(simp_all [hst];omega))) |(simp_all [hst] <;> fail) |(simp_all [hst];omega)
       · first | omega |(simp;omega) | simp_all
       · repeat' first
           | exact SubL.nil
           |(refine SubL.mk rfl ?_ ?_)
           | rfl
           |(simp [hst] <;> fail)
           |(simp [hst];omega)
       · first | rfl |(simp [hst] <;> fail) |(simp [hst];omega)
   · have hno2:p.on.all (fun l=>decide (l.length≤1))=false:=by
       rw [List.all_eq_false]
       exact ⟨p.on[i],List.getElem_mem hlt,by simp;omega⟩
     rw [hno2] at hyes
     generalize p.on[i]=l at hga hl
     repeat' first |(refine kOps ?_;first |(refine LOps.nil ?_) |(refine LOps.ev tT_ok rfl ?_) |(refine kLoad ?_;first |(refine LOps.ans (AnsL.loadP tT_ok rfl rfl rfl rfl) ?_)) |(refine kLen ?_;first |(refine LOps.ans (AnsL.lenM tT_ok rfl rfl rfl) ?_)) |(refine kIdx ?_;first |(refine LOps.ans (AnsL.idx tT_ok rfl rfl rfl rfl rfl hga rfl rfl) ?_))) |(refine kWL ?_;first |(refine WL.seq ?_) |(refine WL.region (by kernel_rfl) ?_) |(refine WL.block ?_) |(refine WL.skip ?_) |(refine WL.ret ?_) |(refine kCond ?_;first |(refine WL.condT' rfl ?_ ?_;(focus (first |(simp only [decide_eq_true_eq,decide_eq_false_iff_not,Bool.not_eq_true',Bool.not_eq_false',Int.ofNat_lt,Int.ofNat_le,Int.ofNat_inj,not_true_eq_false,not_false_eq_true];omega)))))) |(refine lthen_n ?_) |(refine lthen_r ?_) |(refine lblock_r ?_) |(refine lbackD_r ?_) |(refine LPost.r1 (r := .tmp 4) (.inl rfl) (Res1.tmp rfl) ?_) |(refine PureR.mk ?_)
     simp only [PL.ok]
     rw [hyes]
     rfl
 rw [List.take_of_length_le hge] at ha
 rw [ha,Bool.true_and] at hyes
 repeat' first |(refine kOps ?_;first |(refine LOps.nil ?_) |(refine LOps.ev tT_ok rfl ?_) |(refine kLoad ?_;first |(refine LOps.ans (AnsL.loadP tT_ok rfl rfl rfl rfl) ?_)) |(refine kLen ?_;first |(refine LOps.ans (AnsL.lenM tT_ok rfl rfl rfl) ?_))) |(refine kWL ?_;first |(refine WL.seq ?_) |(refine WL.region (by kernel_rfl) ?_) |(refine WL.block ?_) |(refine WL.exit ?_) |(refine kCond ?_;first |(refine WL.condF' rfl ?_ ?_;(focus (first |(simp only [decide_eq_true_eq,decide_eq_false_iff_not,Bool.not_eq_true',Bool.not_eq_false',Int.ofNat_lt,Int.ofNat_le,Int.ofNat_inj,not_true_eq_false,not_false_eq_true];omega)))))) |(refine lthen_n ?_) |(refine lthen_e ?_) |(refine lblock_e ?_) |(refine lbackD_e ?_)
 refine WL.loopD (fun i:Nat=>p.names.length - i) (fun i=>[(2,.ptr (s.next+0) 0),(3,.ptr (s.next+1) 0),(6,.int .i64 (i:Int))]) (fun i=>[.var [.sl 0 (c.tables.map Tab.toV)],.var p.v.cells])
   (fun i=>i≤p.names.length∧(p.names.take i).all nameOk=true) 2 0 ⟨by simp,by simp⟩ (fun _=>rfl) ⟨rfl,rfl,rfl,trivial⟩ rfl (fun i hi=>?_) (fun i hi=>?_)
 · simp [UnderK,UnderX,Own.under,V.under,V.underL,PL.v,V.cells]
 obtain ⟨hi,ha2⟩:=hi
 rcases Nat.lt_or_ge i p.names.length with hlt | hge
 · have hga:(p.names.map sV)[i]?=some (sV p.names[i]):=by rw [List.getElem?_map,List.getElem?_eq_getElem hlt];rfl
   have hst:=all_take (p:=nameOk) hlt
   rw [ha2,Bool.true_and] at hst
   have hN:=fun t=>specNameOk_v p.names[i] t
   cases hl:nameOk p.names[i] <;> rw [hl] at hN hst
   · have hno2:p.names.all nameOk=false:=by
       rw [List.all_eq_false]
       exact ⟨p.names[i],List.getElem_mem hlt,by simp [hl]⟩
     rw [hno2] at hyes
     generalize p.names[i]=l at hga hN
     repeat' first |(refine kOps ?_;first |(refine LOps.nil ?_) |(refine LOps.ev tT_ok rfl ?_) |(refine kLoad ?_;first |(refine LOps.ans (AnsL.loadP tT_ok rfl rfl rfl rfl) ?_)) |(refine kLen ?_;first |(refine LOps.ans (AnsL.lenM tT_ok rfl rfl rfl) ?_)) |(refine kIdx ?_;first |(refine LOps.ans (AnsL.idx tT_ok rfl rfl rfl rfl rfl hga rfl rfl) ?_)) |(refine kCallN 141 ?_;first |(refine LOps.ans (AnsL.callP rfl rfl rfl (ok141) (hN _)) ?_))) |(refine kWL ?_;first |(refine WL.seq ?_) |(refine WL.region (by kernel_rfl) ?_) |(refine WL.block ?_) |(refine WL.skip ?_) |(refine WL.ret ?_) |(refine kCond ?_;first |(refine WL.condT rfl ?_) |(refine WL.condT' rfl ?_ ?_;(focus (first |(simp only [decide_eq_true_eq,decide_eq_false_iff_not,Bool.not_eq_true',Bool.not_eq_false',Int.ofNat_lt,Int.ofNat_le,Int.ofNat_inj,not_true_eq_false,not_false_eq_true];omega)))))) |(refine lthen_n ?_) |(refine lthen_r ?_) |(refine lblock_r ?_) |(refine lbackD_r ?_) |(refine LPost.r1 (r := .tmp 4) (.inl rfl) (Res1.tmp rfl) ?_) |(refine PureR.mk ?_)
     simp only [PL.ok]
     rw [hyes]
     rfl
   · generalize p.names[i]=l at hga hN
     repeat' first |(refine kOps ?_;first |(refine LOps.nil ?_) |(refine LOps.ev tT_ok rfl ?_) |(refine kLoad ?_;first |(refine LOps.ans (AnsL.loadP tT_ok rfl rfl rfl rfl) ?_)) |(refine kLen ?_;first |(refine LOps.ans (AnsL.lenM tT_ok rfl rfl rfl) ?_)) |(refine kBin ?_;first |(refine LOps.ans (AnsL.add rfl rfl ?_) ?_;(focus (constructor <;> omega)))) |(refine kIdx ?_;first |(refine LOps.ans (AnsL.idx tT_ok rfl rfl rfl rfl rfl hga rfl rfl) ?_)) |(refine kCallN 141 ?_;first |(refine LOps.ans (AnsL.callP rfl rfl rfl (ok141) (hN _)) ?_))) |(refine kWL ?_;first |(refine WL.seq ?_) |(refine WL.region (by kernel_rfl) ?_) |(refine WL.block ?_) |(refine WL.skip ?_) |(refine kCond ?_;first |(refine WL.condF rfl ?_) |(refine WL.condT' rfl ?_ ?_;(focus (first |(simp only [decide_eq_true_eq,decide_eq_false_iff_not,Bool.not_eq_true',Bool.not_eq_false',Int.ofNat_lt,Int.ofNat_le,Int.ofNat_inj,not_true_eq_false,not_false_eq_true];omega)))))) |(refine lthen_n ?_) |(refine lblock_n ?_)
     all_goals
       refine lbackD.of (i+1) ?_ ?_ ?_ ?_
       · first | omega |(refine ⟨?_,?_⟩;(focus (first | omega |(simp;omega)));(first | omega |(simp_all [hst] <;> fail) |(simp_all [hst];omega))) |(simp_all [hst] <;> fail) |(simp_all [hst];omega)
       · first | omega |(simp;omega) | simp_all
       · repeat' first
           | exact SubL.nil
           |(refine SubL.mk rfl ?_ ?_)
           | rfl
           |(simp [hst] <;> fail)
           |(simp [hst];omega)
       · first | rfl |(simp [hst] <;> fail) |(simp [hst];omega)
 rw [List.take_of_length_le hge] at ha2
 rw [ha2] at hyes
 have hR:=fun t=>specRowTypes_v c p.tables hc (by omega) t
 repeat' first |(refine kOps ?_;first |(refine LOps.nil ?_) |(refine LOps.ev tT_ok rfl ?_) |(refine kLoad ?_;first |(refine LOps.ans (AnsL.loadP tT_ok rfl rfl rfl rfl) ?_)) |(refine kLen ?_;first |(refine LOps.ans (AnsL.lenM tT_ok rfl rfl rfl) ?_)) |(refine kCallN 118 ?_;first |(refine LOps.ans (AnsL.callP rfl rfl rfl (ok118) (hR _)) ?_))) |(refine kWL ?_;first |(refine WL.seq ?_) |(refine WL.region (by kernel_rfl) ?_) |(refine WL.exit ?_) |(refine WL.ret ?_) |(refine kCond ?_;first |(refine WL.condF' rfl ?_ ?_;(focus (first |(simp only [decide_eq_true_eq,decide_eq_false_iff_not,Bool.not_eq_true',Bool.not_eq_false',Int.ofNat_lt,Int.ofNat_le,Int.ofNat_inj,not_true_eq_false,not_false_eq_true];omega)))))) |(refine lthen_n ?_) |(refine lthen_e ?_) |(refine lblock_e ?_) |(refine lbackD_e ?_) |(refine LPost.r1 (r := .tmp 4) (.inl rfl) (Res1.tmp rfl) ?_) |(refine PureR.mk ?_)
 simp only [PL.ok,hyes,Bool.true_and,rowTy]
 split <;> simp_all
end Go.Proofs.Ytolhegocbkckdaa
