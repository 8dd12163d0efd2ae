/-
 Is each Up of a plan's tree in its bounds: by the program and by the reference. Own work; no condition.
-/
import Derived.Test.YtolhegocbkckdaaMg17
namespace Go.Proofs.Ytolhegocbkckdaa
open Go
set_option linter.unusedSimpArgs false
set_option linter.unusedVariables false
theorem findI_any2 {α : Type} {p : α → Bool}:∀ (xs:List α) (k:Int),0≤k→decide (findI p xs k≥0)=xs.any p
 | [],k,_=>by simp [findI]
 | x::xs,k,hk=>by
   unfold findI
   rw [List.any_cons]
   cases hp:p x
   · simp only [Bool.false_eq_true,if_false,Bool.false_or]
     exact findI_any2 xs (k+1) (by omega)
   · simp [hk]
theorem indexFuncPExpr_v (xs:List (PE)) (p:PE→Bool) (g:FuncId) (caps:List V) (hxs:xs.length≤16777216) (s:S) (hg:CallOk Try.prog g) (hcd:V.underL s.next caps=true)
   (hp:∀ x∈xs,∀ ys,VCalls Try.prog g (PE.v x::caps) (s.ext ys) (fun v s'=>v = .bool (p x)∧s'=s.ext ys)) :
   VCalls Try.prog 121 [.sl 0 (xs.map PE.toV),.fn g caps] s (fun v s'=>v = .int .i64 (findI p xs 0)∧s'=s):=by
 refine LCalls.pure Try.func121 rfl (by kernel_rfl) (by simp) ?_
 repeat' first |(refine kOps ?_;first |(refine LOps.nil ?_) |(refine LOps.ev tT_ok rfl ?_) |(refine kLen ?_;first |(refine LOps.ans (AnsL.lenM tT_ok rfl rfl rfl) ?_))) |(refine kWL ?_;first |(refine WL.seq ?_) |(refine WL.region (by kernel_rfl) ?_) |(refine WL.block ?_)) |(refine lthen_n ?_)
 refine WL.loopD (fun i:Nat=>xs.length - i) (fun i=>[(0,.sl 0 (xs.map PE.toV)),(1,.fn g caps),(7,.int .i64 xs.length),(8,.int .i64 (i:Int))]) (fun i=>[])
   (fun i=>i≤xs.length∧findI p xs 0=findI p (xs.drop i) i) 0 0 ⟨by simp,rfl⟩ (fun _=>rfl) ⟨rfl,rfl,rfl,rfl,trivial⟩ rfl (fun i hi=>?_) (fun i hi=>?_)
 · simp [UnderK,UnderX,Own.under,V.under,V.underL,hcd]
 obtain ⟨hi,hc⟩:=hi
 rcases Nat.lt_or_ge i xs.length with hlt | hge
 · rw [findI_drop hlt] at hc
   have hE:=fun ys=>hp xs[i] (List.getElem_mem hlt) ys
   have hga:(xs.map PE.toV)[i]?=some (PE.v xs[i]):=by simp [hlt,PE.toV_eq]
   cases hpx:p xs[i]
   all_goals rw [hpx] at hE hc
   · generalize xs[i]=y at hga hE
     repeat' first |(refine kOps ?_;first |(refine LOps.nil ?_) |(refine LOps.ev tT_ok rfl ?_) |(refine kBin ?_;first |(refine LOps.ans (AnsL.add rfl rfl ?_) ?_;(focus (constructor <;> omega)))) |(refine kIdx ?_;first |(refine LOps.ans (AnsL.idx tT_ok rfl rfl rfl rfl rfl hga rfl rfl) ?_)) |(refine kCall ?_;first |(refine LOps.ans (AnsL.callP rfl rfl rfl (hg) (hE _)) ?_))) |(refine kWL ?_;first |(refine WL.seq ?_) |(refine WL.region (by kernel_rfl) ?_) |(refine WL.block ?_) |(refine WL.skip ?_) |(refine kCond ?_;first |(refine WL.condF rfl ?_) |(refine WL.condT' rfl ?_ ?_;(focus (first |(simp <;> omega)))))) |(refine lthen_n ?_) |(refine lblock_n ?_)
     all_goals
       refine lbackD.of (i+1) ?_ ?_ ?_ ?_
       · first | omega |(refine ⟨?_,?_⟩;(focus (first | omega |(simp;omega)));(first | omega |(simp_all [hc] <;> fail) |(simp_all [hc];omega))) |(simp_all [hc] <;> fail) |(simp_all [hc];omega)
       · first | omega |(simp;omega) | simp_all
       · repeat' first
           | exact SubL.nil
           |(refine SubL.mk rfl ?_ ?_)
           | rfl
           |(simp [hc] <;> fail)
           |(simp [hc];omega)
       · first | rfl |(simp [hc] <;> fail) |(simp [hc];omega)
   · generalize xs[i]=y at hga hE
     repeat' first |(refine kOps ?_;first |(refine LOps.nil ?_) |(refine LOps.ev tT_ok rfl ?_) |(refine kIdx ?_;first |(refine LOps.ans (AnsL.idx tT_ok rfl rfl rfl rfl rfl hga rfl rfl) ?_)) |(refine kCall ?_;first |(refine LOps.ans (AnsL.callP rfl rfl rfl (hg) (hE _)) ?_))) |(refine kWL ?_;first |(refine WL.seq ?_) |(refine WL.region (by kernel_rfl) ?_) |(refine WL.block ?_) |(refine WL.skip ?_) |(refine WL.ret ?_) |(refine kCond ?_;first |(refine WL.condT rfl ?_) |(refine WL.condT' rfl ?_ ?_;(focus (first |(simp <;> omega)))))) |(refine lthen_n ?_) |(refine lthen_r ?_) |(refine lblock_r ?_) |(refine lbackD_r ?_) |(refine LPost.r1 (r := .tmp 4) (.inl rfl) (Res1.tmp rfl) ?_) |(refine PureR.mk ?_)
     simp_all
 · rw [findI_end hge] at hc
   repeat' first |(refine kOps ?_;first |(refine LOps.nil ?_) |(refine LOps.ev tT_ok rfl ?_)) |(refine kWL ?_;first |(refine WL.seq ?_) |(refine WL.region (by kernel_rfl) ?_) |(refine WL.exit ?_) |(refine WL.ret ?_) |(refine kCond ?_;first |(refine WL.condF' rfl ?_ ?_;(focus (first |(simp <;> omega)))))) |(refine lthen_n ?_) |(refine lthen_e ?_) |(refine lblock_e ?_) |(refine lbackD_e ?_) |(refine LPost.r1 (r := .tmp 4) (.inl rfl) (Res1.tmp rfl) ?_) |(refine PureR.mk ?_)
   simp [hc]
theorem containsFuncPExpr_v (xs:List (PE)) (p:PE→Bool) (g:FuncId) (caps:List V) (hxs:xs.length≤16777216) (s:S) (hg:CallOk Try.prog g) (hcd:V.underL s.next caps=true)
   (hp:∀ x∈xs,∀ ys,VCalls Try.prog g (PE.v x::caps) (s.ext ys) (fun v s'=>v = .bool (p x)∧s'=s.ext ys)) :
   VCalls Try.prog 73 [.sl 0 (xs.map PE.toV),.fn g caps] s (fun v s'=>v = .bool (xs.any p)∧s'=s):=by
 have hp2:∀ x∈xs,∀ zs ys,VCalls Try.prog g (PE.v x::caps) ((s.ext zs).ext ys) (fun v s'=>v = .bool (p x)∧s'=(s.ext zs).ext ys):=fun x hx zs ys=>by rw [ext_ext];exact hp x hx _
 rw [← findI_any2 xs 0 (by omega)]
 refine LCalls.pure Try.func73 rfl (by kernel_rfl) (by simp) ?_
 repeat' first |(refine kOps ?_;first |(refine LOps.nil ?_) |(refine LOps.ev tT_ok rfl ?_) |(refine kCallN 121 ?_;first |(refine LOps.ans (AnsL.callP rfl rfl rfl (ok121) (indexFuncPExpr_v _ p _ _ hxs _ hg ?_ ?_)) ?_;(focus (exact hcd));(focus (exact fun x hx ys=>hp2 x hx _ ys))))) |(refine kWL ?_;first |(refine WL.seq ?_) |(refine WL.region (by kernel_rfl) ?_) |(refine WL.ret ?_)) |(refine lthen_n ?_) |(refine LPost.r1 (r := .tmp 4) (.inl rfl) (Res1.tmp rfl) ?_) |(refine PureR.mk ?_)
 rfl
def UpsC (P:Program) (g:FuncId) (e:PE):Prop:=∀ s:S,VCalls P g [e.v] s (fun v s'=>v = .bool e.ups∧s'=s)
theorem any_not {α : Type} (p : α → Bool) (l:List α):l.any (fun x => !p x) = !l.all p:=by
 induction l with
 | nil=>rfl
 | cons x l ih=>simp only [List.any_cons,List.all_cons,ih,Bool.not_and]
theorem all_takeU {α : Type} {p : α → Bool} {l:List α} {i:Nat} (hi:i<l.length):(l.take (i+1)).all p=((l.take i).all p&&p l[i]):=by
 rw [List.take_succ_eq_append_getElem hi,List.all_append]
 simp
theorem all_noU {α : Type} {p : α → Bool} {l:List α} {i:Nat} (hi:i<l.length) (h:p l[i]=false):l.all p=false:=by
 rw [List.all_eq_false]
 exact ⟨l[i],List.getElem_mem hi,by simp [h]⟩
theorem specUps_c (e:PE):wgt e.v≤1048576→UpsC Try.prog 37 e:=by
 induction e using PE.ind with
 | h e ih1 ih2 =>
   intro hw s
   have hwe:=PE.wgt_eq2 e
   have l1:=wgt_len PE.toV e.kids
   have l2:=wgt_len PE.planV e.sub
   rw [PE.ups_eq]
   have hI:∀ t,VCalls Try.prog 36 [.int .i64 e.up,.int .i64 0,.int .i64 1000] t (fun v t'=>v = .bool (upOk e.up)∧t'=t):=fun t=>specl1In_v _ _ _ t
   cases hu:upOk e.up
   all_goals rw [hu] at hI
   · skip
     refine LCalls.pure Try.func37 rfl (by kernel_rfl) (by simp) ?_
     repeat' first |(refine kOps ?_;first |(refine LOps.nil ?_) |(refine LOps.ev tT_ok rfl ?_) |(refine kBox ?_;refine LOps.box rfl rfl rfl rfl ?_) |(refine kLoad ?_;first |(refine LOps.ans (AnsL.loadP tT_ok rfl rfl rfl rfl) ?_)) |(refine kCallN 36 ?_;first |(refine LOps.ans (AnsL.callP rfl rfl rfl (ok36) (hI _)) ?_))) |(refine kWL ?_;first |(refine WL.seq ?_) |(refine WL.region (by kernel_rfl) ?_) |(refine WL.ret ?_) |(refine kCond ?_;first |(refine WL.condT rfl ?_))) |(refine lthen_n ?_) |(refine lthen_r ?_) |(refine LPost.r1 (r := .tmp 2) (.inl rfl) (Res1.tmp rfl) ?_) |(refine PureR.mk ?_)
     rfl
   rw [Bool.true_and]
   refine LCalls.pure Try.func37 rfl (by kernel_rfl) (by simp) ?_
   repeat' first |(refine kOps ?_;first |(refine LOps.nil ?_) |(refine LOps.ev tT_ok rfl ?_) |(refine kBox ?_;refine LOps.box rfl rfl rfl rfl ?_) |(refine kLoad ?_;first |(refine LOps.ans (AnsL.loadP tT_ok rfl rfl rfl rfl) ?_)) |(refine kCallN 36 ?_;first |(refine LOps.ans (AnsL.callP rfl rfl rfl (ok36) (hI _)) ?_))) |(refine kWL ?_;first |(refine WL.seq ?_) |(refine WL.region (by kernel_rfl) ?_) |(refine WL.block ?_) |(refine WL.skip ?_) |(refine kCond ?_;first |(refine WL.condF rfl ?_))) |(refine lthen_n ?_)
   refine WL.loopD (fun i:Nat=>e.kids.length - i) (fun i=>[(1,.ptr (s.next+0) 0),(3,.int .i64 (i:Int))]) (fun i=>[.var e.v.cells])
     (fun i=>i≤e.kids.length∧(e.kids.take i).all PE.ups=true) 1 0 ⟨by simp,by simp⟩ (fun _=>rfl) ⟨rfl,rfl,trivial⟩ rfl (fun i hi=>?_) (fun i hi=>?_)
   · simp [UnderK,UnderX,Own.under,V.under,V.underL,PE.v,V.cells]
   obtain ⟨hi,ha⟩:=hi
   rcases Nat.lt_or_ge i e.kids.length with hlt | hge
   · have hga:(e.kids.map PE.toV)[i]?=some (PE.v e.kids[i]):=by rw [List.getElem?_map,List.getElem?_eq_getElem hlt];simp only [Option.map_some,PE.toV_eq]
     have hE:=ih1 e.kids[i] (List.getElem_mem hlt) (Nat.le_trans (PE.wgt_kid (List.getElem_mem hlt)) hw)
     have hst:=all_takeU (p:=PE.ups) hlt
     rw [ha,Bool.true_and] at hst
     have hno:=all_noU (p:=PE.ups) hlt
     unfold UpsC at hE
     generalize e.kids[i]=x at hga hE hst hno
     cases hx:x.ups <;> rw [hx] at hE hst
     · rw [hno hx,Bool.false_and]
       repeat' first |(refine kOps ?_;first |(refine LOps.nil ?_) |(refine LOps.ev tT_ok rfl ?_) |(refine kLoad ?_;first |(refine LOps.ans (AnsL.loadP tT_ok rfl rfl rfl rfl) ?_)) |(refine kLen ?_;first |(refine LOps.ans (AnsL.lenM tT_ok rfl rfl rfl) ?_)) |(refine kIdx ?_;first |(refine LOps.ans (AnsL.idx tT_ok rfl rfl rfl rfl rfl hga rfl rfl) ?_)) |(refine kCallN 37 ?_;first |(refine LOps.ans (AnsL.callP rfl rfl rfl (ok37) (hE _)) ?_))) |(refine kWL ?_;first |(refine WL.seq ?_) |(refine WL.region (by kernel_rfl) ?_) |(refine WL.block ?_) |(refine WL.skip ?_) |(refine WL.ret ?_) |(refine kCond ?_;first |(refine WL.condT rfl ?_) |(refine WL.condT' rfl ?_ ?_;(focus (first |(simp <;> omega)))))) |(refine lthen_n ?_) |(refine lthen_r ?_) |(refine lblock_r ?_) |(refine lbackD_r ?_) |(refine LPost.r1 (r := .tmp 2) (.inl rfl) (Res1.tmp rfl) ?_) |(refine PureR.mk ?_)
       rfl
     · skip
       repeat' first |(refine kOps ?_;first |(refine LOps.nil ?_) |(refine LOps.ev tT_ok rfl ?_) |(refine kLoad ?_;first |(refine LOps.ans (AnsL.loadP tT_ok rfl rfl rfl rfl) ?_)) |(refine kLen ?_;first |(refine LOps.ans (AnsL.lenM tT_ok rfl rfl rfl) ?_)) |(refine kBin ?_;first |(refine LOps.ans (AnsL.add rfl rfl ?_) ?_;(focus (constructor <;> omega)))) |(refine kIdx ?_;first |(refine LOps.ans (AnsL.idx tT_ok rfl rfl rfl rfl rfl hga rfl rfl) ?_)) |(refine kCallN 37 ?_;first |(refine LOps.ans (AnsL.callP rfl rfl rfl (ok37) (hE _)) ?_))) |(refine kWL ?_;first |(refine WL.seq ?_) |(refine WL.region (by kernel_rfl) ?_) |(refine WL.block ?_) |(refine WL.skip ?_) |(refine kCond ?_;first |(refine WL.condF rfl ?_) |(refine WL.condT' rfl ?_ ?_;(focus (first |(simp <;> omega)))))) |(refine lthen_n ?_) |(refine lblock_n ?_)
       all_goals
         refine lbackD.of (i+1) ?_ ?_ ?_ ?_
         · first | omega |(refine ⟨?_,?_⟩;(focus (first | omega |(simp;omega)));(first | omega |(simp_all [hst] <;> fail) |(simp_all [hst];omega))) |(simp_all [hst] <;> fail) |(simp_all [hst];omega)
         · first | omega |(simp;omega) | simp_all
         · repeat' first
             | exact SubL.nil
             |(refine SubL.mk rfl ?_ ?_)
             | rfl
             |(simp [hst] <;> fail)
             |(simp [hst];omega)
         · first | rfl |(simp [hst] <;> fail) |(simp [hst];omega)
   rw [List.take_of_length_le hge] at ha
   rw [ha,Bool.true_and]
   repeat' first |(refine kOps ?_;first |(refine LOps.nil ?_) |(refine LOps.ev tT_ok rfl ?_) |(refine kLoad ?_;first |(refine LOps.ans (AnsL.loadP tT_ok rfl rfl rfl rfl) ?_)) |(refine kLen ?_;first |(refine LOps.ans (AnsL.lenM tT_ok rfl rfl rfl) ?_))) |(refine kWL ?_;first |(refine WL.seq ?_) |(refine WL.region (by kernel_rfl) ?_) |(refine WL.block ?_) |(refine WL.exit ?_) |(refine kCond ?_;first |(refine WL.condF' rfl ?_ ?_;(focus (first |(simp <;> omega)))))) |(refine lthen_n ?_) |(refine lthen_e ?_) |(refine lblock_e ?_) |(refine lbackD_e ?_)
   refine WL.loopD (fun i:Nat=>e.sub.length - i) (fun i=>[(1,.ptr (s.next+0) 0),(4,.int .i64 (i:Int))]) (fun i=>[.var e.v.cells])
     (fun i=>i≤e.sub.length∧(e.sub.take i).all (fun p=>p.parts.all PE.ups)=true) 1 0 ⟨by simp,by simp⟩ (fun _=>rfl) ⟨rfl,rfl,trivial⟩ rfl (fun i hi=>?_) (fun i hi=>?_)
   · simp [UnderK,UnderX,Own.under,V.under,V.underL,PE.v,V.cells]
   obtain ⟨hi,hb⟩:=hi
   rcases Nat.lt_or_ge i e.sub.length with hlt | hge2
   · have hga:(e.sub.map PE.planV)[i]?=some (PL.v e.sub[i]):=by rw [List.getElem?_map,List.getElem?_eq_getElem hlt];simp only [Option.map_some,PE.planV_eq]
     have hwp:wgt (PL.v e.sub[i])≤1048576:=Nat.le_trans (PE.wgt_sub (List.getElem_mem hlt)) hw
     have hE:=fun k (hk:k∈e.sub[i].parts)=>ih2 _ (List.getElem_mem hlt) k hk (Nat.le_trans (PL.wgt_part2 hk) hwp)
     have hst:=all_takeU (p:=fun p:PL=>p.parts.all PE.ups) hlt
     rw [hb,Bool.true_and] at hst
     have hno:=all_noU (p:=fun p:PL=>p.parts.all PE.ups) hlt
     have hP:=fun t=>specParts_v e.sub[i] hwp t
     have hrl:(e.sub[i]).parts.length≤1048576:=by have:=PL.parts_len e.sub[i];omega
     generalize e.sub[i]=x at hga hE hst hno hP hrl
     generalize x.parts=r at hE hst hno hP hrl
     repeat' first |(refine kOps ?_;first |(refine LOps.nil ?_) |(refine LOps.ev tT_ok rfl ?_) |(refine kLoad ?_;first |(refine LOps.ans (AnsL.loadP tT_ok rfl rfl rfl rfl) ?_)) |(refine kLen ?_;first |(refine LOps.ans (AnsL.lenM tT_ok rfl rfl rfl) ?_)) |(refine kIdx ?_;first |(refine LOps.ans (AnsL.idx tT_ok rfl rfl rfl rfl rfl hga rfl rfl) ?_)) |(refine kCallN 48 ?_;first |(refine LOps.ans (AnsL.callP rfl rfl rfl (ok48) (hP _)) ?_))) |(refine kWL ?_;first |(refine WL.seq ?_) |(refine WL.region (by kernel_rfl) ?_) |(refine WL.block ?_) |(refine WL.skip ?_) |(refine kCond ?_;first |(refine WL.condT' rfl ?_ ?_;(focus (first |(simp <;> omega)))))) |(refine lthen_n ?_)
     refine WL.loopD (fun j:Nat=>r.length - j) (fun j=>[(1,.ptr (s.next+0) 0),(4,.int .i64 (i:Int)),(5,.sl 0 (r.map PE.toV)),(6,.int .i64 (j:Int))]) (fun j=>[.var e.v.cells])
       (fun j=>j≤r.length∧(r.take j).all PE.ups=true) 1 0 ⟨by simp,by simp⟩ (fun _=>rfl) ⟨rfl,rfl,rfl,rfl,trivial⟩ rfl (fun j hj=>?_) (fun j hj=>?_)
     · simp [UnderK,UnderX,Own.under,V.under,V.underL,PE.v,V.cells]
     obtain ⟨hj,hc⟩:=hj
     rcases Nat.lt_or_ge j r.length with hlt2 | hge3
     · have hgb:(r.map PE.toV)[j]?=some (PE.v r[j]):=by rw [List.getElem?_map,List.getElem?_eq_getElem hlt2];simp only [Option.map_some,PE.toV_eq]
       have hF:=hE r[j] (List.getElem_mem hlt2)
       have hst2:=all_takeU (p:=PE.ups) hlt2
       rw [hc,Bool.true_and] at hst2
       have hno2:=all_noU (p:=PE.ups) hlt2
       unfold UpsC at hF
       generalize r[j]=y at hgb hF hst2 hno2
       cases hy:y.ups <;> rw [hy] at hF hst2
       · rw [hno (hno2 hy)]
         repeat' first |(refine kOps ?_;first |(refine LOps.nil ?_) |(refine LOps.ev tT_ok rfl ?_) |(refine kLen ?_;first |(refine LOps.ans (AnsL.lenM tT_ok rfl rfl rfl) ?_)) |(refine kIdx ?_;first |(refine LOps.ans (AnsL.idx tT_ok rfl rfl rfl rfl rfl hgb rfl rfl) ?_)) |(refine kCallN 37 ?_;first |(refine LOps.ans (AnsL.callP rfl rfl rfl (ok37) (hF _)) ?_))) |(refine kWL ?_;first |(refine WL.seq ?_) |(refine WL.region (by kernel_rfl) ?_) |(refine WL.block ?_) |(refine WL.skip ?_) |(refine WL.ret ?_) |(refine kCond ?_;first |(refine WL.condT rfl ?_) |(refine WL.condT' rfl ?_ ?_;(focus (first |(simp <;> omega)))))) |(refine lthen_n ?_) |(refine lthen_r ?_) |(refine lblock_r ?_) |(refine lbackD_r ?_) |(refine LPost.r1 (r := .tmp 2) (.inl rfl) (Res1.tmp rfl) ?_) |(refine PureR.mk ?_)
         rfl
       · skip
         repeat' first |(refine kOps ?_;first |(refine LOps.nil ?_) |(refine LOps.ev tT_ok rfl ?_) |(refine kLen ?_;first |(refine LOps.ans (AnsL.lenM tT_ok rfl rfl rfl) ?_)) |(refine kBin ?_;first |(refine LOps.ans (AnsL.add rfl rfl ?_) ?_;(focus (constructor <;> omega)))) |(refine kIdx ?_;first |(refine LOps.ans (AnsL.idx tT_ok rfl rfl rfl rfl rfl hgb rfl rfl) ?_)) |(refine kCallN 37 ?_;first |(refine LOps.ans (AnsL.callP rfl rfl rfl (ok37) (hF _)) ?_))) |(refine kWL ?_;first |(refine WL.seq ?_) |(refine WL.region (by kernel_rfl) ?_) |(refine WL.block ?_) |(refine WL.skip ?_) |(refine kCond ?_;first |(refine WL.condF rfl ?_) |(refine WL.condT' rfl ?_ ?_;(focus (first |(simp <;> omega)))))) |(refine lthen_n ?_) |(refine lblock_n ?_)
         all_goals
           refine lbackD.of (j+1) ?_ ?_ ?_ ?_
           · first | omega |(refine ⟨?_,?_⟩;(focus (first | omega |(simp;omega)));(first | omega |(simp_all [hst2] <;> fail) |(simp_all [hst2];omega))) |(simp_all [hst2] <;> fail) |(simp_all [hst2];omega)
           · first | omega |(simp;omega) | simp_all
           · repeat' first
               | exact SubL.nil
               |(refine SubL.mk rfl ?_ ?_)
               | rfl
               |(simp [hst2] <;> fail)
               |(simp [hst2];omega)
           · first | rfl |(simp [hst2] <;> fail) |(simp [hst2];omega)
     rw [List.take_of_length_le hge3] at hc
     rw [hc] at hst
     repeat' first |(refine kOps ?_;first |(refine LOps.nil ?_) |(refine LOps.ev tT_ok rfl ?_) |(refine kLen ?_;first |(refine LOps.ans (AnsL.lenM tT_ok rfl rfl rfl) ?_)) |(refine kBin ?_;first |(refine LOps.ans (AnsL.add rfl rfl ?_) ?_;(focus (constructor <;> omega))))) |(refine kWL ?_;first |(refine WL.seq ?_) |(refine WL.region (by kernel_rfl) ?_) |(refine WL.exit ?_) |(refine kCond ?_;first |(refine WL.condF' rfl ?_ ?_;(focus (first |(simp <;> omega)))))) |(refine lthen_n ?_) |(refine lthen_e ?_) |(refine lblock_n ?_) |(refine lblock_e ?_) |(refine lbackD_e ?_)
     all_goals
       refine lbackD.of (i+1) ?_ ?_ ?_ ?_
       · first | omega |(refine ⟨?_,?_⟩;(focus (first | omega |(simp;omega)));(first | omega |(simp_all [hst] <;> fail) |(simp_all [hst];omega))) |(simp_all [hst] <;> fail) |(simp_all [hst];omega)
       · first | omega |(simp;omega) | simp_all
       · repeat' first
           | exact SubL.nil
           |(refine SubL.mk rfl ?_ ?_)
           | rfl
           |(simp [hst] <;> fail)
           |(simp [hst];omega)
       · first | rfl |(simp [hst] <;> fail) |(simp [hst];omega)
   rw [List.take_of_length_le hge2] at hb
   rw [hb]
   repeat' first |(refine kOps ?_;first |(refine LOps.nil ?_) |(refine LOps.ev tT_ok rfl ?_) |(refine kLoad ?_;first |(refine LOps.ans (AnsL.loadP tT_ok rfl rfl rfl rfl) ?_)) |(refine kLen ?_;first |(refine LOps.ans (AnsL.lenM tT_ok rfl rfl rfl) ?_))) |(refine kWL ?_;first |(refine WL.seq ?_) |(refine WL.region (by kernel_rfl) ?_) |(refine WL.exit ?_) |(refine WL.ret ?_) |(refine kCond ?_;first |(refine WL.condF' rfl ?_ ?_;(focus (first |(simp <;> omega)))))) |(refine lthen_n ?_) |(refine lthen_e ?_) |(refine lblock_e ?_) |(refine lbackD_e ?_) |(refine LPost.r1 (r := .tmp 2) (.inl rfl) (Res1.tmp rfl) ?_) |(refine PureR.mk ?_)
   rfl
end Go.Proofs.Ytolhegocbkckdaa
