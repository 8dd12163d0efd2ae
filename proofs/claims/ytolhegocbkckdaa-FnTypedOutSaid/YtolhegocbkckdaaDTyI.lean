/-
 The types of plans' trees, of the program. Own work; no condition.
-/
import Derived.Test.YtolhegocbkckdaaDTyG
namespace Go.Proofs.Ytolhegocbkckdaa
open Go
set_option linter.unusedSimpArgs false
set_option linter.unusedVariables false
theorem tyP_len {c:Cat} {env:List (List Int)} {p:PL} {l:List Int} (h:PE.tyP c env p=some l):l.length=p.items.length:=by
 rw [PE.tyP_eq] at h
 split at h
 · split at h
   · split at h
     · split at h
       · exact PE.tyL_len _ _ h
       · cases h
     · cases h
   · cases h
 · cases h
set_option maxHeartbeats 8000000 in
theorem implTypeIn_c (c:Cat) (hc:c.wt≤1048576) (e:PE):wgt e.v≤1048576→TyC Try.prog 26 c e:=by
 induction e using PE.ind with
 | h e ih1 ih2 =>
   intro hw env hb hr s
   have e1:=PE.wgt_eq2 e
   have e2:=kids_w e.kids
   have hkl:=wgt_len PE.toV e.kids
   have hsl:=wgt_len PE.planV e.sub
   have hE0:∀ k∈e.kids,∀ s,VCalls Try.prog 26 [c.toV,envV env,k.v] s (fun v s'=>v=optV (k.ty c env)∧s'=s):=fun k hk=>ih1 k hk (Nat.le_trans (PE.wgt_kid hk) hw) env (by have:=PE.wgt_kid hk;omega) hr
   have hP0:∀ p∈e.sub,∀ s,VCalls Try.prog 64 [c.toV,envV env,p.v] s (fun v s'=>v=typesV (PE.tyP c env p)∧s'=s):=fun p hp=>implPlanTypes_r c p hc (Nat.le_trans (PE.wgt_sub hp) hw) (fun k hk=>ih2 p hp k hk (Nat.le_trans (PL.wgt_part2 hk) (Nat.le_trans (PE.wgt_sub hp) hw))) env (by have:=PE.wgt_sub hp;omega) hr
   have hS:=fun t=>implhasForm_v e (by omega) (by omega) t
   clear ih1 ih2
   rw [PE.ty_eq]
   cases hsh:e.shape <;> rw [hsh] at hS
   · simp only [Bool.false_eq_true,if_false]
     refine LCalls.pure Try.func26 rfl (by kernel_rfl) (by simp) ?_
     repeat' first |(refine kOps ?_;first |(refine LOps.nil ?_) |(refine LOps.ev tT_ok rfl ?_) |(refine kBox ?_;refine LOps.box rfl rfl rfl rfl ?_) |(refine kLoad ?_;first |(refine LOps.ans (AnsL.loadP tT_ok rfl rfl rfl rfl) ?_)) |(refine kCallN 63 ?_;first |(refine LOps.ans (AnsL.callP rfl rfl rfl (ok63) (hS _)) ?_))) |(refine kWL ?_;first |(refine WL.seq ?_) |(refine WL.region (by kernel_rfl) ?_) |(refine WL.ret ?_) |(refine kCond ?_;first |(refine WL.condT rfl ?_))) |(refine lthen_n ?_) |(refine lthen_r ?_) |(refine LPost.r2 (r := .tmp 6) (r' := .tmp 7) (.inl rfl) (Res1.tmp rfl) (Res1.tmp rfl) ?_) |(refine PureR.mk ?_)
     rfl
   simp only [if_true]
   have hf:=shape_facts hsh
   by_cases hk2:e.kind=2
   · have h12:e.kids=[]∧e.sub=[]:=by
       rcases hf with ⟨hk,h1,h2⟩ | ⟨hk,h1,h2⟩ | ⟨hk,⟨a,h1⟩,h2⟩ | ⟨hk,⟨a,b,h1⟩,h2⟩ | ⟨hk,h2⟩ | ⟨hk,h2⟩ | ⟨hk,h2⟩ | ⟨hk,p,h2⟩ | ⟨hk,h1,p,h2⟩ <;> first | exact ⟨h1,h2⟩ |(exfalso;omega)
     rw [h12.1,h12.2,tyS_nil]
     simp only [PE.tyL]
     rw [show resT env e.kind e.op e.value e.up e.pos [] []=colTy env e.up e.pos by simp [resT,hk2]]
     by_cases u0:e.up<0
     · rw [colTy_no (by simp only [inR,Bool.and_eq_false_iff,decide_eq_false_iff_not];omega)]
       refine LCalls.pure Try.func26 rfl (by kernel_rfl) (by simp) ?_
       repeat' first |(refine kOps ?_;first |(refine LOps.nil ?_) |(refine LOps.ev tT_ok rfl ?_) |(refine kBox ?_;refine LOps.box rfl rfl rfl rfl ?_) |(refine kLoad ?_;first |(refine LOps.ans (AnsL.loadP tT_ok rfl rfl rfl rfl) ?_)) |(refine kCallN 63 ?_;first |(refine LOps.ans (AnsL.callP rfl rfl rfl (ok63) (hS _)) ?_))) |(refine kWL ?_;first |(refine WL.seq ?_) |(refine WL.region (by kernel_rfl) ?_) |(refine WL.drawn (id:=4) [0,1,2,3,4,5,6,7,8,9,10,11,12,13,14,15,16,17,18,19,20,21,22,23,24,25] [] [[],[0],[0,1],[0,1,2],[0,1,2,3],[0,1,2,3,4],[0,1,2,3],[0,1,2,3,6],[0,1,2,3,4,5,6,7],[0,1,2,3,4,5,6,7,8],[0,1,2,3,4,5,6,7,8,9],[0,1,2,3,4,5,6,7,8,9,10],[0,1,2,3,4,5,6,7,8,9,10,11],[0,1,2,3,4,5,6,7,8,9,10,11,12],[0,1,2,3,4,5,6,7,8,9,10,11,12,13],[0,1,2,3,4,5,6,7,8,9,10,11,12,13,14],[0,1,2,3,4,5,6,7,8,9,10,11,12,13,14,15],[0,1,2,3,4,5,6,7,8,9,10,11,12,13,14,15,16],[0,1,2,3,4,5,6,7,8,9,10,11,12,13,14,15],[0,1,2,3,4,5,6,7,8,9,10,11,12,13,14,15],[0,1,2,3,4,5,6,7,8,9,10,11,12,13,14,15,19],[0,1,2,3,4,5,6,7,8,9,10,11,12,13,14,15,18,19,20],[0,1,2,3,4,5,6,7,8,9,10,11,12,13,14,15,18,19,20,21],[0,1,2,3,4,5,6,7,8,9,10,11,12,13,14,15,18,19,20,21,22],[0,1,2,3,4,5,6,7,8,9,10,11,12,13,14,15,16,17,18,19,20,21,22,23],[0,1,2,3,4,5,6,7,8,9,10,11,12,13,14,15,16,17,18,19,20,21,22,23,24]] (by kernel_rfl) (by kernel_rfl) ?_) |(refine WL.skip ?_) |(refine WL.ret ?_) |(refine kCond ?_;first |(refine WL.condT rfl ?_) |(refine WL.condF rfl ?_) |(refine WL.condT' rfl ?_ ?_;(focus (first |(exact decide_eq_true (by assumption))))))) |(refine kDr ?_;first |(refine LDr.nil ?_) |(refine LDr.fl rfl rfl (.ev tT_ok rfl) ?_) |(refine LDr.gF rfl rfl rfl rfl rfl ?_) |(refine kDLoad rfl ?_;first |(refine LDr.fl rfl rfl (AnsL.loadP tT_ok rfl rfl rfl rfl) ?_)) |(refine LDr.gD true rfl rfl rfl rfl ?_ ?_;(focus (first |(exact decide_eq_true (by assumption)))))) |(refine lthen_n ?_) |(refine lthen_r ?_) |(refine LPost.r2 (r := .tmp 6) (r' := .tmp 7) (.inl rfl) (Res1.tmp rfl) (Res1.tmp rfl) ?_) |(refine PureR.mk ?_)
       rfl
     by_cases u1:(env.length:Int)≤e.up
     · rw [colTy_no (by simp only [inR,Bool.and_eq_false_iff,decide_eq_false_iff_not];omega)]
       refine LCalls.pure Try.func26 rfl (by kernel_rfl) (by simp) ?_
       repeat' first |(refine kOps ?_;first |(refine LOps.nil ?_) |(refine LOps.ev tT_ok rfl ?_) |(refine kBox ?_;refine LOps.box rfl rfl rfl rfl ?_) |(refine kLoad ?_;first |(refine LOps.ans (AnsL.loadP tT_ok rfl rfl rfl rfl) ?_)) |(refine kCallN 63 ?_;first |(refine LOps.ans (AnsL.callP rfl rfl rfl (ok63) (hS _)) ?_))) |(refine kWL ?_;first |(refine WL.seq ?_) |(refine WL.region (by kernel_rfl) ?_) |(refine WL.drawn (id:=4) [0,1,2,3,4,5,6,7,8,9,10,11,12,13,14,15,16,17,18,19,20,21,22,23,24,25] [] [[],[0],[0,1],[0,1,2],[0,1,2,3],[0,1,2,3,4],[0,1,2,3],[0,1,2,3,6],[0,1,2,3,4,5,6,7],[0,1,2,3,4,5,6,7,8],[0,1,2,3,4,5,6,7,8,9],[0,1,2,3,4,5,6,7,8,9,10],[0,1,2,3,4,5,6,7,8,9,10,11],[0,1,2,3,4,5,6,7,8,9,10,11,12],[0,1,2,3,4,5,6,7,8,9,10,11,12,13],[0,1,2,3,4,5,6,7,8,9,10,11,12,13,14],[0,1,2,3,4,5,6,7,8,9,10,11,12,13,14,15],[0,1,2,3,4,5,6,7,8,9,10,11,12,13,14,15,16],[0,1,2,3,4,5,6,7,8,9,10,11,12,13,14,15],[0,1,2,3,4,5,6,7,8,9,10,11,12,13,14,15],[0,1,2,3,4,5,6,7,8,9,10,11,12,13,14,15,19],[0,1,2,3,4,5,6,7,8,9,10,11,12,13,14,15,18,19,20],[0,1,2,3,4,5,6,7,8,9,10,11,12,13,14,15,18,19,20,21],[0,1,2,3,4,5,6,7,8,9,10,11,12,13,14,15,18,19,20,21,22],[0,1,2,3,4,5,6,7,8,9,10,11,12,13,14,15,16,17,18,19,20,21,22,23],[0,1,2,3,4,5,6,7,8,9,10,11,12,13,14,15,16,17,18,19,20,21,22,23,24]] (by kernel_rfl) (by kernel_rfl) ?_) |(refine WL.skip ?_) |(refine WL.ret ?_) |(refine kCond ?_;first |(refine WL.condT rfl ?_) |(refine WL.condF rfl ?_) |(refine WL.condT' rfl ?_ ?_;(focus (first |(exact decide_eq_true (by assumption))))))) |(refine kDr ?_;first |(refine LDr.nil ?_) |(refine LDr.fl rfl rfl (.ev tT_ok rfl) ?_) |(refine LDr.gF rfl rfl rfl rfl rfl ?_) |(refine LDr.gT rfl rfl rfl rfl rfl (.ev tT_ok rfl) ?_) |(refine kDLoad rfl ?_;first |(refine LDr.fl rfl rfl (AnsL.loadP tT_ok rfl rfl rfl rfl) ?_) |(refine LDr.gT rfl rfl rfl rfl rfl (AnsL.loadP tT_ok rfl rfl rfl rfl) ?_)) |(refine kDLen rfl ?_;first |(refine LDr.gT rfl rfl rfl rfl rfl (AnsL.lenM tT_ok rfl rfl rfl) ?_)) |(refine LDr.gD true rfl rfl rfl rfl ?_ ?_;(focus (first |(exact decide_eq_true (by assumption))))) |(refine LDr.gD false rfl rfl rfl rfl ?_ ?_;(focus (first |(exact decide_eq_false (by assumption)))))) |(refine lthen_n ?_) |(refine lthen_r ?_) |(refine LPost.r2 (r := .tmp 6) (r' := .tmp 7) (.inl rfl) (Res1.tmp rfl) (Res1.tmp rfl) ?_) |(refine PureR.mk ?_)
       rfl
     obtain ⟨n,hn⟩:∃ n:Nat,e.up=(n:Int):=⟨e.up.toNat,by omega⟩
     have hnl:n<env.length:=by omega
     have hrl:=hr _ (List.getElem_mem hnl)
     have hgu:(env.map ints)[n]?=some (ints env[n]):=by simp [hnl]
     have hcn:=fun h=>colTy_no2 (pos:=e.pos) hnl h
     have hcy:=fun m h=>colTy_yes (m:=m) hnl h
     rw [hn]
     generalize env[n]=row at hrl hgu hcn hcy
     by_cases p0:e.pos<0
     · rw [hcn (by simp only [inR,Bool.and_eq_false_iff,decide_eq_false_iff_not];omega)]
       refine LCalls.pure Try.func26 rfl (by kernel_rfl) (by simp) ?_
       repeat' first |(refine kOps ?_;first |(refine LOps.nil ?_) |(refine LOps.ev tT_ok rfl ?_) |(refine kBox ?_;refine LOps.box rfl rfl rfl rfl ?_) |(refine kLoad ?_;first |(refine LOps.ans (AnsL.loadP tT_ok rfl rfl rfl rfl) ?_)) |(refine kCallN 63 ?_;first |(refine LOps.ans (AnsL.callP rfl rfl rfl (ok63) (hS _)) ?_))) |(refine kWL ?_;first |(refine WL.seq ?_) |(refine WL.region (by kernel_rfl) ?_) |(refine WL.drawn (id:=4) [0,1,2,3,4,5,6,7,8,9,10,11,12,13,14,15,16,17,18,19,20,21,22,23,24,25] [] [[],[0],[0,1],[0,1,2],[0,1,2,3],[0,1,2,3,4],[0,1,2,3],[0,1,2,3,6],[0,1,2,3,4,5,6,7],[0,1,2,3,4,5,6,7,8],[0,1,2,3,4,5,6,7,8,9],[0,1,2,3,4,5,6,7,8,9,10],[0,1,2,3,4,5,6,7,8,9,10,11],[0,1,2,3,4,5,6,7,8,9,10,11,12],[0,1,2,3,4,5,6,7,8,9,10,11,12,13],[0,1,2,3,4,5,6,7,8,9,10,11,12,13,14],[0,1,2,3,4,5,6,7,8,9,10,11,12,13,14,15],[0,1,2,3,4,5,6,7,8,9,10,11,12,13,14,15,16],[0,1,2,3,4,5,6,7,8,9,10,11,12,13,14,15],[0,1,2,3,4,5,6,7,8,9,10,11,12,13,14,15],[0,1,2,3,4,5,6,7,8,9,10,11,12,13,14,15,19],[0,1,2,3,4,5,6,7,8,9,10,11,12,13,14,15,18,19,20],[0,1,2,3,4,5,6,7,8,9,10,11,12,13,14,15,18,19,20,21],[0,1,2,3,4,5,6,7,8,9,10,11,12,13,14,15,18,19,20,21,22],[0,1,2,3,4,5,6,7,8,9,10,11,12,13,14,15,16,17,18,19,20,21,22,23],[0,1,2,3,4,5,6,7,8,9,10,11,12,13,14,15,16,17,18,19,20,21,22,23,24]] (by kernel_rfl) (by kernel_rfl) ?_) |(refine WL.skip ?_) |(refine WL.ret ?_) |(refine kCond ?_;first |(refine WL.condT rfl ?_) |(refine WL.condF rfl ?_) |(refine WL.condT' rfl ?_ ?_;(focus (first |(exact decide_eq_true (by assumption))))))) |(refine kDr ?_;first |(refine LDr.nil ?_) |(refine LDr.fl rfl rfl (.ev tT_ok rfl) ?_) |(refine LDr.gF rfl rfl rfl rfl rfl ?_) |(refine LDr.gT rfl rfl rfl rfl rfl (.ev tT_ok rfl) ?_) |(refine kDLoad rfl ?_;first |(refine LDr.fl rfl rfl (AnsL.loadP tT_ok rfl rfl rfl rfl) ?_) |(refine LDr.gT rfl rfl rfl rfl rfl (AnsL.loadP tT_ok rfl rfl rfl rfl) ?_)) |(refine kDLen rfl ?_;first |(refine LDr.gT rfl rfl rfl rfl rfl (AnsL.lenM tT_ok rfl rfl rfl) ?_)) |(refine LDr.gD true rfl rfl rfl rfl ?_ ?_;(focus (first |(exact decide_eq_true (by assumption))))) |(refine LDr.gD false rfl rfl rfl rfl ?_ ?_;(focus (first |(exact decide_eq_false (by assumption)))))) |(refine lthen_n ?_) |(refine lthen_r ?_) |(refine LPost.r2 (r := .tmp 6) (r' := .tmp 7) (.inl rfl) (Res1.tmp rfl) (Res1.tmp rfl) ?_) |(refine PureR.mk ?_)
       rfl
     by_cases p1:(row.length:Int)≤e.pos
     · rw [hcn (by simp only [inR,Bool.and_eq_false_iff,decide_eq_false_iff_not];omega)]
       refine LCalls.pure Try.func26 rfl (by kernel_rfl) (by simp) ?_
       repeat' first |(refine kOps ?_;first |(refine LOps.nil ?_) |(refine LOps.ev tT_ok rfl ?_) |(refine kBox ?_;refine LOps.box rfl rfl rfl rfl ?_) |(refine kLoad ?_;first |(refine LOps.ans (AnsL.loadP tT_ok rfl rfl rfl rfl) ?_)) |(refine kCallN 63 ?_;first |(refine LOps.ans (AnsL.callP rfl rfl rfl (ok63) (hS _)) ?_))) |(refine kWL ?_;first |(refine WL.seq ?_) |(refine WL.region (by kernel_rfl) ?_) |(refine WL.drawn (id:=4) [0,1,2,3,4,5,6,7,8,9,10,11,12,13,14,15,16,17,18,19,20,21,22,23,24,25] [] [[],[0],[0,1],[0,1,2],[0,1,2,3],[0,1,2,3,4],[0,1,2,3],[0,1,2,3,6],[0,1,2,3,4,5,6,7],[0,1,2,3,4,5,6,7,8],[0,1,2,3,4,5,6,7,8,9],[0,1,2,3,4,5,6,7,8,9,10],[0,1,2,3,4,5,6,7,8,9,10,11],[0,1,2,3,4,5,6,7,8,9,10,11,12],[0,1,2,3,4,5,6,7,8,9,10,11,12,13],[0,1,2,3,4,5,6,7,8,9,10,11,12,13,14],[0,1,2,3,4,5,6,7,8,9,10,11,12,13,14,15],[0,1,2,3,4,5,6,7,8,9,10,11,12,13,14,15,16],[0,1,2,3,4,5,6,7,8,9,10,11,12,13,14,15],[0,1,2,3,4,5,6,7,8,9,10,11,12,13,14,15],[0,1,2,3,4,5,6,7,8,9,10,11,12,13,14,15,19],[0,1,2,3,4,5,6,7,8,9,10,11,12,13,14,15,18,19,20],[0,1,2,3,4,5,6,7,8,9,10,11,12,13,14,15,18,19,20,21],[0,1,2,3,4,5,6,7,8,9,10,11,12,13,14,15,18,19,20,21,22],[0,1,2,3,4,5,6,7,8,9,10,11,12,13,14,15,16,17,18,19,20,21,22,23],[0,1,2,3,4,5,6,7,8,9,10,11,12,13,14,15,16,17,18,19,20,21,22,23,24]] (by kernel_rfl) (by kernel_rfl) ?_) |(refine WL.skip ?_) |(refine WL.ret ?_) |(refine kCond ?_;first |(refine WL.condF rfl ?_) |(refine WL.condT' rfl ?_ ?_;(focus (first |(exact decide_eq_true (by assumption))))))) |(refine kDr ?_;first |(refine LDr.nil ?_) |(refine LDr.fl rfl rfl (.ev tT_ok rfl) ?_) |(refine LDr.gT rfl rfl rfl rfl rfl (.ev tT_ok rfl) ?_) |(refine kDLoad rfl ?_;first |(refine LDr.fl rfl rfl (AnsL.loadP tT_ok rfl rfl rfl rfl) ?_) |(refine LDr.gT rfl rfl rfl rfl rfl (AnsL.loadP tT_ok rfl rfl rfl rfl) ?_)) |(refine kDLen rfl ?_;first |(refine LDr.gT rfl rfl rfl rfl rfl (AnsL.lenM tT_ok rfl rfl rfl) ?_)) |(refine kDIdx rfl ?_;first |(refine LDr.gT rfl rfl rfl rfl rfl (AnsL.idx (j:=n) tT_ok rfl (congrArg (fun z=>some (V.int .i64 z)) hn) rfl rfl rfl hgu rfl rfl) ?_)) |(refine LDr.gD false rfl rfl rfl rfl ?_ ?_;(focus (first |(exact decide_eq_false (by assumption)))))) |(refine lthen_n ?_) |(refine lthen_r ?_) |(refine LPost.r2 (r := .tmp 6) (r' := .tmp 7) (.inl rfl) (Res1.tmp rfl) (Res1.tmp rfl) ?_) |(refine PureR.mk ?_)
       rfl
     obtain ⟨m,hm⟩:∃ m:Nat,e.pos=(m:Int):=⟨e.pos.toNat,by omega⟩
     have hml:m<row.length:=by omega
     have hgv:(row.map iV)[m]?=some (iV row[m]):=by simp [hml]
     rw [hm,hcy m hml]
     refine LCalls.pure Try.func26 rfl (by kernel_rfl) (by simp) ?_
     repeat' first |(refine kOps ?_;first |(refine LOps.nil ?_) |(refine LOps.ev tT_ok rfl ?_) |(refine kBox ?_;refine LOps.box rfl rfl rfl rfl ?_) |(refine kLoad ?_;first |(refine LOps.ans (AnsL.loadP tT_ok rfl rfl rfl rfl) ?_)) |(refine kCallN 63 ?_;first |(refine LOps.ans (AnsL.callP rfl rfl rfl (ok63) (hS _)) ?_))) |(refine kWL ?_;first |(refine WL.seq ?_) |(refine WL.region (by kernel_rfl) ?_) |(refine WL.drawn (id:=4) [0,1,2,3,4,5,6,7,8,9,10,11,12,13,14,15,16,17,18,19,20,21,22,23,24,25] [] [[],[0],[0,1],[0,1,2],[0,1,2,3],[0,1,2,3,4],[0,1,2,3],[0,1,2,3,6],[0,1,2,3,4,5,6,7],[0,1,2,3,4,5,6,7,8],[0,1,2,3,4,5,6,7,8,9],[0,1,2,3,4,5,6,7,8,9,10],[0,1,2,3,4,5,6,7,8,9,10,11],[0,1,2,3,4,5,6,7,8,9,10,11,12],[0,1,2,3,4,5,6,7,8,9,10,11,12,13],[0,1,2,3,4,5,6,7,8,9,10,11,12,13,14],[0,1,2,3,4,5,6,7,8,9,10,11,12,13,14,15],[0,1,2,3,4,5,6,7,8,9,10,11,12,13,14,15,16],[0,1,2,3,4,5,6,7,8,9,10,11,12,13,14,15],[0,1,2,3,4,5,6,7,8,9,10,11,12,13,14,15],[0,1,2,3,4,5,6,7,8,9,10,11,12,13,14,15,19],[0,1,2,3,4,5,6,7,8,9,10,11,12,13,14,15,18,19,20],[0,1,2,3,4,5,6,7,8,9,10,11,12,13,14,15,18,19,20,21],[0,1,2,3,4,5,6,7,8,9,10,11,12,13,14,15,18,19,20,21,22],[0,1,2,3,4,5,6,7,8,9,10,11,12,13,14,15,16,17,18,19,20,21,22,23],[0,1,2,3,4,5,6,7,8,9,10,11,12,13,14,15,16,17,18,19,20,21,22,23,24]] (by kernel_rfl) (by kernel_rfl) ?_) |(refine WL.drawn (id:=6) [0,1,2,3,4,5,6,7,8,9,10] [] [[],[],[1],[0,1,2],[0,1,2,3],[],[5],[0,1,2,3,4,5,6],[0,1,2,3,4,5,6,7],[0,1,2,3,4,5,6,7,8],[0,1,2,3,4,5,6,7,8,9]] (by kernel_rfl) (by kernel_rfl) ?_) |(refine WL.skip ?_) |(refine WL.ret ?_) |(refine kCond ?_;first |(refine WL.condF rfl ?_) |(refine WL.condT' rfl ?_ ?_;(focus (first |(exact decide_eq_true (by assumption))))) |(refine WL.condF' rfl ?_ ?_;(focus (first |(exact decide_eq_false (by assumption))))))) |(refine kDr ?_;first |(refine LDr.nil ?_) |(refine LDr.fl rfl rfl (.ev tT_ok rfl) ?_) |(refine LDr.gT rfl rfl rfl rfl rfl (.ev tT_ok rfl) ?_) |(refine kDLoad rfl ?_;first |(refine LDr.fl rfl rfl (AnsL.loadP tT_ok rfl rfl rfl rfl) ?_) |(refine LDr.gT rfl rfl rfl rfl rfl (AnsL.loadP tT_ok rfl rfl rfl rfl) ?_)) |(refine kDLen rfl ?_;first |(refine LDr.gT rfl rfl rfl rfl rfl (AnsL.lenM tT_ok rfl rfl rfl) ?_)) |(refine kDIdx rfl ?_;first |(refine LDr.fl rfl rfl (AnsL.idx (j:=n) tT_ok rfl (congrArg (fun z=>some (V.int .i64 z)) hn) rfl rfl rfl hgu rfl rfl) ?_) |(refine LDr.gT rfl rfl rfl rfl rfl (AnsL.idx (j:=n) tT_ok rfl (congrArg (fun z=>some (V.int .i64 z)) hn) rfl rfl rfl hgu rfl rfl) ?_) |(refine LDr.fl rfl rfl (AnsL.idx (j:=m) tT_ok rfl (congrArg (fun z=>some (V.int .i64 z)) hm) rfl rfl rfl hgv rfl rfl) ?_)) |(refine LDr.gD false rfl rfl rfl rfl ?_ ?_;(focus (first |(exact decide_eq_false (by assumption)))))) |(refine lthen_n ?_) |(refine lthen_r ?_) |(refine LPost.r2 (r := .tmp 6) (r' := .tmp 7) (.inl rfl) (Res1.tmp rfl) (Res1.tmp rfl) ?_) |(refine PureR.mk ?_)
     rfl
   refine LCalls.pure Try.func26 rfl (by kernel_rfl) (by simp) ?_
   repeat' first |(refine kOps ?_;first |(refine LOps.nil ?_) |(refine LOps.ev tT_ok rfl ?_) |(refine kBox ?_;refine LOps.box rfl rfl rfl rfl ?_) |(refine kBsl ?_;first |(refine LOps.bsl0 tT_ok rfl rfl rfl rfl rfl ?_)) |(refine kLoad ?_;first |(refine LOps.ans (AnsL.loadP tT_ok rfl rfl rfl rfl) ?_)) |(refine kLen ?_;first |(refine LOps.ans (AnsL.lenM tT_ok rfl rfl rfl) ?_)) |(refine kCallN 63 ?_;first |(refine LOps.ans (AnsL.callP rfl rfl rfl (ok63) (hS _)) ?_))) |(refine kWL ?_;first |(refine WL.seq ?_) |(refine WL.region (by kernel_rfl) ?_) |(refine WL.block ?_) |(refine WL.skip ?_) |(refine kCond ?_;first |(refine WL.condF rfl ?_) |(refine WL.condF' rfl ?_ ?_;(focus (first |(exact decide_eq_false (by assumption))))))) |(refine lthen_n ?_)
   refine WL.zfam (t:=8) 1 rfl rfl rfl rfl ?_
   refine WL.loopD (fun x:Nat × List Int=>e.kids.length - x.1) (fun x=>[(1,envV env),(3,.ptr (s.next+0) 0),(5,.ptr (s.next+1) 0),(8,.sl (s.next+2) (x.2.map iV)),(9,.zsl),(62,.sl 0 (e.kids.map PE.toV)),(63,.int .i64 e.kids.length),(64,.int .i64 (x.1:Int))]) (fun x=>[.var [.sl 0 (c.tables.map Tab.toV)],.var e.v.cells,.fam x.2.length 1])
     (fun x=>x.1≤e.kids.length∧PE.tyL c env (e.kids.take x.1)=some x.2) 3 (0,[]) ⟨by simp,by simp [PE.tyL]⟩ (fun _=>rfl) ⟨rfl,rfl,rfl,rfl,rfl,rfl,rfl,rfl,trivial⟩ rfl (fun i hi=>?_) (fun i hi=>?_)
   · simp [UnderK,UnderX,Own.under,V.under,V.underL,PE.v,V.cells,envV,ints]
   obtain ⟨i,ts⟩:=i
   obtain ⟨hi,ht⟩:=hi
   try dsimp only at hi ht ⊢
   have htl:=PE.tyL_len c env ht
   rw [List.length_take] at htl
   rcases Nat.lt_or_ge i e.kids.length with hlt | hge
   · have hga:(e.kids.map PE.toV)[i]?=some (PE.v e.kids[i]):=by rw [List.getElem?_map,List.getElem?_eq_getElem hlt];simp only [Option.map_some,PE.toV_eq]
     have hE:=hE0 _ (List.getElem_mem hlt)
     have hn:=fun h=>PE.tyL_take_none hlt ht h
     have hs:=fun t h=>PE.tyL_take_some (t:=t) hlt ht h
     generalize e.kids[i]=x at hga hE hn hs
     cases ho:PE.ty c env x with
     | none =>
       rw [ho] at hE
       rw [hn ho]
       repeat' first |(refine kOps ?_;first |(refine LOps.nil ?_) |(refine kStore ?_;refine LOps.storeP tT_ok rfl rfl rfl rfl rfl rfl rfl rfl rfl ?_) |(refine LOps.ev tT_ok rfl ?_) |(refine kAlloc ?_;refine LOps.alloc tT_ok rfl rfl rfl rfl ?_) |(refine kLoad ?_;first |(refine LOps.ans (AnsL.loadP tT_ok rfl rfl rfl rfl) ?_)) |(refine kIdx ?_;first |(refine LOps.ans (AnsL.idx tT_ok rfl rfl rfl rfl rfl hga rfl rfl) ?_)) |(refine kCallN 26 ?_;first |(refine LOps.ans (AnsL.callP rfl rfl rfl (ok26) (hE _)) ?_))) |(refine kWL ?_;first |(refine WL.seq ?_) |(refine WL.region (by kernel_rfl) ?_) |(refine WL.block ?_) |(refine WL.skip ?_) |(refine WL.ret ?_) |(refine kCond ?_;first |(refine WL.condT rfl ?_) |(refine WL.condT' rfl ?_ ?_;(focus (first |(simp <;> omega)))))) |(refine lthen_n ?_) |(refine lthen_r ?_) |(refine lblock_r ?_) |(refine lbackD_r ?_) |(refine LPost.r2 (r := .tmp 6) (r' := .tmp 7) (.inl rfl) (Res1.tmp rfl) (Res1.tmp rfl) ?_) |(refine PureR.mk ?_)
       rfl
     | some t =>
       rw [ho] at hE
       have hs:=hs t ho
       repeat' first |(refine kOps ?_;first |(refine LOps.nil ?_) |(refine kStore ?_;refine LOps.storeP tT_ok rfl rfl rfl rfl rfl rfl rfl rfl rfl ?_) |(refine LOps.ev tT_ok rfl ?_) |(refine kAlloc ?_;refine LOps.alloc tT_ok rfl rfl rfl rfl ?_) |(refine kBsl ?_;first |(refine LOps.bsl tT_ok rfl rfl rfl rfl rfl rfl rfl rfl rfl rfl rfl ?_)) |(refine kApp ?_;first |(refine LOps.app tT_ok rfl rfl rfl rfl rfl rfl rfl rfl rfl rfl rfl ?_ ?_ (AppB.of ?_ rfl) ?_;(focus (first | rfl |(simp <;> fail)));(focus (first | exact Elems.of rfl | exact Elems.map fun _=>rfl | exact PE.els _ (fun _=>rfl) _));(focus (first | omega |(simp;omega))))) |(refine kLoad ?_;first |(refine LOps.ans (AnsL.loadP tT_ok rfl rfl rfl rfl) ?_)) |(refine kBin ?_;first |(refine LOps.ans (AnsL.add rfl rfl ?_) ?_;(focus (constructor <;> omega)))) |(refine kIdx ?_;first |(refine LOps.ans (AnsL.idx tT_ok rfl rfl rfl rfl rfl hga rfl rfl) ?_)) |(refine kCallN 26 ?_;first |(refine LOps.ans (AnsL.callP rfl rfl rfl (ok26) (hE _)) ?_))) |(refine kWL ?_;first |(refine WL.seq ?_) |(refine WL.region (by kernel_rfl) ?_) |(refine WL.block ?_) |(refine WL.skip ?_) |(refine kCond ?_;first |(refine WL.condF rfl ?_) |(refine WL.condT' rfl ?_ ?_;(focus (first |(simp <;> omega)))))) |(refine lthen_n ?_) |(refine lblock_n ?_)
       refine lbackD.of (i+1,ts++[t]) ⟨hlt,hs⟩ (by show e.kids.length - (i+1)<e.kids.length - i;omega) ?_ ?_
       · rw [List.map_append]
         repeat' first | exact SubL.nil |(refine SubL.mk rfl ?_ ?_) | rfl |(simp <;> fail) |(simp;omega)
       · simp [PE.v,V.cells]
   rw [List.take_of_length_le hge] at ht
   rw [Nat.min_eq_right (by omega)] at htl
   rw [ht]
   dsimp only
   clear hE0
   have k3:e.kind=3→ts.length=1:=fun h=>by
     rcases hf with ⟨hk,h1,h2⟩ | ⟨hk,h1,h2⟩ | ⟨hk,⟨a,h1⟩,h2⟩ | ⟨hk,⟨a,b,h1⟩,h2⟩ | ⟨hk,h2⟩ | ⟨hk,h2⟩ | ⟨hk,h2⟩ | ⟨hk,p,h2⟩ | ⟨hk,h1,p,h2⟩ <;> first |(exfalso;omega) |(rw [htl,h1];rfl)
   have k4:e.kind=4→ts.length=2:=fun h=>by
     rcases hf with ⟨hk,h1,h2⟩ | ⟨hk,h1,h2⟩ | ⟨hk,⟨a,h1⟩,h2⟩ | ⟨hk,⟨a,b,h1⟩,h2⟩ | ⟨hk,h2⟩ | ⟨hk,h2⟩ | ⟨hk,h2⟩ | ⟨hk,p,h2⟩ | ⟨hk,h1,p,h2⟩ <;> first |(exfalso;omega) |(rw [htl,h1];rfl)
   have hsub:(e.sub=[]∧¬ e.kind=8∧¬ e.kind=9)∨∃ p,e.sub=[p]∧(e.kind=8∨e.kind=9):=by
     rcases hf with ⟨hk,h1,h2⟩ | ⟨hk,h1,h2⟩ | ⟨hk,⟨a,h1⟩,h2⟩ | ⟨hk,⟨a,b,h1⟩,h2⟩ | ⟨hk,h2⟩ | ⟨hk,h2⟩ | ⟨hk,h2⟩ | ⟨hk,p,h2⟩ | ⟨hk,h1,p,h2⟩ <;> first | exact .inl ⟨h2,by omega,by omega⟩ | exact .inr ⟨p,h2,by omega⟩
   clear hf
   have hpe:e.v.forget=e.v:=plain_forget _ (PE.plainv e)
   rcases hsub with ⟨h2,hk8,hk9⟩ | ⟨p,h2,hk89⟩
   · have hs0:e.sub.length=0:=by rw [h2];rfl
     have hT:∀ id t,VCalls Try.prog 65 [e.v,.sl id (ts.map iV),.zsl] t (fun v t'=>v=optV (resK e ts [])∧t'=t):=fun id t=>VCalls.forget (by
       rw [show List.map V.forget [e.v,.sl id (ts.map iV),.zsl]=[e.v,ints ts,ints []] by simp [V.forget,V.forgetL_eq,ints,hpe,Function.comp_def]]
       exact implresultType_v e ts [] (by omega) (by simp) k3 k4 t)
     have er:resT env e.kind e.op e.value e.up e.pos ts []=resK e ts []:=by simp [resT,resK,hk2,hk8,hk9]
     rw [show PE.tyS c env e.sub=some [] by rw [h2,tyS_nil]]
     dsimp only
     rw [er]
     generalize resK e ts []=o at hT ⊢
     repeat' first |(refine kOps ?_;first |(refine LOps.nil ?_) |(refine LOps.ev tT_ok rfl ?_) |(refine kLoad ?_;first |(refine LOps.ans (AnsL.loadP tT_ok rfl rfl rfl rfl) ?_)) |(refine kLen ?_;first |(refine LOps.ans (AnsL.lenM tT_ok rfl rfl rfl) ?_))) |(refine kWL ?_;first |(refine WL.seq ?_) |(refine WL.region (by kernel_rfl) ?_) |(refine WL.block ?_) |(refine WL.exit ?_) |(refine kCond ?_;first |(refine WL.condF' rfl ?_ ?_;(focus (first |(simp <;> omega)))))) |(refine lthen_n ?_) |(refine lthen_e ?_) |(refine lblock_e ?_) |(refine lbackD_e ?_)
     refine WL.loopD (fun i:Nat=>1 - i) (fun i=>[(1,envV env),(3,.ptr (s.next+0) 0),(5,.ptr (s.next+1) 0),(8,.sl (s.next+2) (ts.map iV)),(9,.zsl),(83,.sl 0 (e.sub.map PE.planV)),(84,.int .i64 e.sub.length),(85,.int .i64 (i:Int))]) (fun i=>[.var [.sl 0 (c.tables.map Tab.toV)],.var e.v.cells,.fam ts.length 1]) (fun i=>i=0) 3 0 rfl (fun _=>rfl) ⟨rfl,rfl,rfl,rfl,rfl,rfl,rfl,rfl,trivial⟩ rfl (fun i hi=>?_) (fun i hi=>?_)
     · simp [UnderK,UnderX,Own.under,V.under,V.underL,PE.v,V.cells,envV,ints]
     subst hi
     cases o
     all_goals
       repeat' first |(refine kOps ?_;first |(refine LOps.nil ?_) |(refine LOps.ev tT_ok rfl ?_) |(refine kLoad ?_;first |(refine LOps.ans (AnsL.loadP tT_ok rfl rfl rfl rfl) ?_)) |(refine kCallN 65 ?_;first |(refine LOps.ans (AnsL.callP rfl rfl rfl (ok65) (hT _ _)) ?_))) |(refine kWL ?_;first |(refine WL.seq ?_) |(refine WL.region (by kernel_rfl) ?_) |(refine WL.exit ?_) |(refine WL.ret ?_) |(refine kCond ?_;first |(refine WL.condF' rfl ?_ ?_;(focus (first |(simp <;> omega)))))) |(refine lthen_n ?_) |(refine lthen_e ?_) |(refine lblock_e ?_) |(refine lbackD_e ?_) |(refine LPost.r2 (r := .tmp 6) (r' := .tmp 7) (.inl rfl) (Res1.tmp rfl) (Res1.tmp rfl) ?_) |(refine PureR.mk ?_)
       rfl
   · have hPl:=hP0 p (by rw [h2];simp)
     have hs1:e.sub.length=1:=by rw [h2];rfl
     have hgs:(e.sub.map PE.planV)[0]?=some (PL.v p):=by rw [h2];simp [PE.planV_eq]
     rw [show PE.tyS c env e.sub=(PE.tyP c env p).map fun l=>[l] by rw [h2,tyS_one]]
     cases hty:PE.tyP c env p with
     | none =>
       rw [hty] at hPl
       repeat' first |(refine kOps ?_;first |(refine LOps.nil ?_) |(refine LOps.ev tT_ok rfl ?_) |(refine kLoad ?_;first |(refine LOps.ans (AnsL.loadP tT_ok rfl rfl rfl rfl) ?_)) |(refine kLen ?_;first |(refine LOps.ans (AnsL.lenM tT_ok rfl rfl rfl) ?_))) |(refine kWL ?_;first |(refine WL.seq ?_) |(refine WL.region (by kernel_rfl) ?_) |(refine WL.block ?_) |(refine WL.exit ?_) |(refine kCond ?_;first |(refine WL.condF' rfl ?_ ?_;(focus (first |(simp <;> omega)))))) |(refine lthen_n ?_) |(refine lthen_e ?_) |(refine lblock_e ?_) |(refine lbackD_e ?_)
       refine WL.loopD (fun i:Nat=>1 - i) (fun i=>[(1,envV env),(3,.ptr (s.next+0) 0),(5,.ptr (s.next+1) 0),(8,.sl (s.next+2) (ts.map iV)),(9,.zsl),(83,.sl 0 (e.sub.map PE.planV)),(84,.int .i64 e.sub.length),(85,.int .i64 (i:Int))]) (fun i=>[.var [.sl 0 (c.tables.map Tab.toV)],.var e.v.cells,.fam ts.length 1]) (fun i=>i=0) 3 0 rfl (fun _=>rfl) ⟨rfl,rfl,rfl,rfl,rfl,rfl,rfl,rfl,trivial⟩ rfl (fun i hi=>?_) (fun i hi=>?_)
       · simp [UnderK,UnderX,Own.under,V.under,V.underL,PE.v,V.cells,envV,ints]
       subst hi
       repeat' first |(refine kOps ?_;first |(refine LOps.nil ?_) |(refine kG ?_;first |(refine LOps.gF rfl rfl rfl ?_) |(refine LOps.gU rfl rfl ?_)) |(refine kStore ?_;refine LOps.storeP tT_ok rfl rfl rfl rfl rfl rfl rfl rfl rfl ?_) |(refine LOps.ev tT_ok rfl ?_) |(refine kAlloc ?_;refine LOps.alloc tT_ok rfl rfl rfl rfl ?_) |(refine kLoad ?_;first |(refine LOps.ans (AnsL.loadP tT_ok rfl rfl rfl rfl) ?_)) |(refine kIdx ?_;first |(refine LOps.ans (AnsL.idx (j:=0) tT_ok rfl rfl rfl rfl rfl hgs rfl rfl) ?_)) |(refine kCallN 64 ?_;first |(refine LOps.ans (AnsL.callP rfl rfl rfl (ok64) (hPl _)) ?_))) |(refine kWL ?_;first |(refine WL.seq ?_) |(refine WL.region (by kernel_rfl) ?_) |(refine WL.block ?_) |(refine WL.skip ?_) |(refine WL.ret ?_) |(refine kCond ?_;first |(refine WL.condT rfl ?_) |(refine WL.condT' rfl ?_ ?_;(focus (first |(simp <;> omega)))))) |(refine lthen_n ?_) |(refine lthen_r ?_) |(refine lblock_r ?_) |(refine lbackD_r ?_) |(refine LPost.r2 (r := .tmp 6) (r' := .tmp 7) (.inl rfl) (Res1.tmp rfl) (Res1.tmp rfl) ?_) |(refine PureR.mk ?_)
       rfl
     | some l =>
       rw [hty] at hPl
       simp only [Option.map_some]
       try dsimp only
       by_cases hl1:e.kind=8∧¬ l.length=1
       · obtain ⟨hk,hl1⟩:=hl1
         rw [show resT env e.kind e.op e.value e.up e.pos ts [l]=none by simp [resT,hk,hl1]]
         have hl2:¬ (l.length:Int)=1:=by omega
         repeat' first |(refine kOps ?_;first |(refine LOps.nil ?_) |(refine LOps.ev tT_ok rfl ?_) |(refine kLoad ?_;first |(refine LOps.ans (AnsL.loadP tT_ok rfl rfl rfl rfl) ?_)) |(refine kLen ?_;first |(refine LOps.ans (AnsL.lenM tT_ok rfl rfl rfl) ?_))) |(refine kWL ?_;first |(refine WL.seq ?_) |(refine WL.region (by kernel_rfl) ?_) |(refine WL.block ?_) |(refine WL.exit ?_) |(refine kCond ?_;first |(refine WL.condF' rfl ?_ ?_;(focus (first |(simp <;> omega)))))) |(refine lthen_n ?_) |(refine lthen_e ?_) |(refine lblock_e ?_) |(refine lbackD_e ?_)
         refine WL.loopD (fun i:Nat=>1 - i) (fun i=>[(1,envV env),(3,.ptr (s.next+0) 0),(5,.ptr (s.next+1) 0),(8,.sl (s.next+2) (ts.map iV)),(9,.zsl),(83,.sl 0 (e.sub.map PE.planV)),(84,.int .i64 e.sub.length),(85,.int .i64 (i:Int))]) (fun i=>[.var [.sl 0 (c.tables.map Tab.toV)],.var e.v.cells,.fam ts.length 1]) (fun i=>i=0) 3 0 rfl (fun _=>rfl) ⟨rfl,rfl,rfl,rfl,rfl,rfl,rfl,rfl,trivial⟩ rfl (fun i hi=>?_) (fun i hi=>?_)
         · simp [UnderK,UnderX,Own.under,V.under,V.underL,PE.v,V.cells,envV,ints]
         subst hi
         repeat' first |(refine kOps ?_;first |(refine LOps.nil ?_) |(refine kG ?_;first |(refine LOps.gT rfl rfl rfl ?_) |(refine LOps.gD true rfl rfl rfl ?_ ?_;(focus (first |(exact decide_eq_true (by assumption)))))) |(refine kStore ?_;refine LOps.storeP tT_ok rfl rfl rfl rfl rfl rfl rfl rfl rfl ?_) |(refine LOps.ev tT_ok rfl ?_) |(refine kAlloc ?_;refine LOps.alloc tT_ok rfl rfl rfl rfl ?_) |(refine kLoad ?_;first |(refine LOps.ans (AnsL.loadP tT_ok rfl rfl rfl rfl) ?_)) |(refine kLen ?_;first |(refine LOps.ans (AnsL.lenM tT_ok rfl rfl rfl) ?_)) |(refine kIdx ?_;first |(refine LOps.ans (AnsL.idx (j:=0) tT_ok rfl rfl rfl rfl rfl hgs rfl rfl) ?_)) |(refine kCallN 64 ?_;first |(refine LOps.ans (AnsL.callP rfl rfl rfl (ok64) (hPl _)) ?_))) |(refine kWL ?_;first |(refine WL.seq ?_) |(refine WL.region (by kernel_rfl) ?_) |(refine WL.block ?_) |(refine WL.skip ?_) |(refine WL.ret ?_) |(refine kCond ?_;first |(refine WL.condT' rfl ?_ ?_;(focus (first |(simp <;> omega)))))) |(refine lthen_n ?_) |(refine lthen_r ?_) |(refine lblock_r ?_) |(refine lbackD_r ?_) |(refine LPost.r2 (r := .tmp 6) (r' := .tmp 7) (.inl rfl) (Res1.tmp rfl) (Res1.tmp rfl) ?_) |(refine PureR.mk ?_)
         rfl
       · have hll:l.length≤4194304:=by
           have q1:=tyP_len hty
           have q2:=PL.parts_len p
           have q3:p.items.length≤p.parts.length:=by simp only [PlanOf.parts,List.length_append];omega
           have q4:=PE.wgt_sub (e:=e) (p:=p) (by rw [h2];simp)
           omega
         have hT:∀ id t,VCalls Try.prog 65 [e.v,.sl id (ts.map iV),ints l] t (fun v t'=>v=optV (resK e ts l)∧t'=t):=fun id t=>VCalls.forget (by
           rw [show List.map V.forget [e.v,.sl id (ts.map iV),ints l]=[e.v,ints ts,ints l] by simp [V.forget,V.forgetL_eq,ints,hpe,Function.comp_def]]
           exact implresultType_v e ts l (by omega) hll k3 k4 t)
         have er:resT env e.kind e.op e.value e.up e.pos ts [l]=resK e ts l:=by
           rcases hk89 with hk | hk
           · have:l.length=1:=by
               by_cases q:l.length=1
               · exact q
               · exact absurd ⟨hk,q⟩ hl1
             simp [resT,resK,hk,this]
           · simp [resT,resK,hk]
         rw [er]
         generalize resK e ts l=o at hT ⊢
         have hk8l:e.kind=8→(l.length:Int)=1:=fun hk=>by
           by_cases q:l.length=1
           · omega
           · exact absurd ⟨hk,q⟩ hl1
         repeat' first |(refine kOps ?_;first |(refine LOps.nil ?_) |(refine LOps.ev tT_ok rfl ?_) |(refine kLoad ?_;first |(refine LOps.ans (AnsL.loadP tT_ok rfl rfl rfl rfl) ?_)) |(refine kLen ?_;first |(refine LOps.ans (AnsL.lenM tT_ok rfl rfl rfl) ?_))) |(refine kWL ?_;first |(refine WL.seq ?_) |(refine WL.region (by kernel_rfl) ?_) |(refine WL.block ?_) |(refine WL.exit ?_) |(refine kCond ?_;first |(refine WL.condF' rfl ?_ ?_;(focus (first |(simp <;> omega)))))) |(refine lthen_n ?_) |(refine lthen_e ?_) |(refine lblock_e ?_) |(refine lbackD_e ?_)
         refine WL.loopD (fun i:Nat=>1 - i) (fun i=>[(1,envV env),(3,.ptr (s.next+0) 0),(5,.ptr (s.next+1) 0),(8,.sl (s.next+2) (ts.map iV)),(9,(match i with | 0=>V.zsl | _+1=>ints l)),(83,.sl 0 (e.sub.map PE.planV)),(84,.int .i64 e.sub.length),(85,.int .i64 (i:Int))]) (fun i=>[.var [.sl 0 (c.tables.map Tab.toV)],.var e.v.cells,.fam ts.length 1]) (fun i=>i≤1) 3 0 (by omega) (fun _=>rfl) ⟨rfl,rfl,rfl,rfl,rfl,rfl,rfl,rfl,trivial⟩ rfl (fun i hi=>?_) (fun i hi=>?_)
         · have hi2:i=0∨i=1:=by omega
           rcases hi2 with rfl | rfl <;> simp [UnderK,UnderX,Own.under,V.under,V.underL,PE.v,V.cells,envV,ints]
         have hi2:i=0∨i=1:=by omega
         rcases hi2 with rfl | rfl
         · dsimp only
           rcases hk89 with hk | hk
           · have hk8l:=hk8l hk
             repeat' first |(refine kOps ?_;first |(refine LOps.nil ?_) |(refine kG ?_;first |(refine LOps.gT rfl rfl rfl ?_) |(refine LOps.gD true rfl rfl rfl ?_ ?_;(focus (first |(exact decide_eq_true (by assumption)))))) |(refine kStore ?_;refine LOps.storeP tT_ok rfl rfl rfl rfl rfl rfl rfl rfl rfl ?_) |(refine LOps.ev tT_ok rfl ?_) |(refine kAlloc ?_;refine LOps.alloc tT_ok rfl rfl rfl rfl ?_) |(refine kLoad ?_;first |(refine LOps.ans (AnsL.loadP tT_ok rfl rfl rfl rfl) ?_)) |(refine kLen ?_;first |(refine LOps.ans (AnsL.lenM tT_ok rfl rfl rfl) ?_)) |(refine kBin ?_;first |(refine LOps.ans (AnsL.add rfl rfl ?_) ?_;(focus (constructor <;> omega)))) |(refine kIdx ?_;first |(refine LOps.ans (AnsL.idx (j:=0) tT_ok rfl rfl rfl rfl rfl hgs rfl rfl) ?_)) |(refine kCallN 64 ?_;first |(refine LOps.ans (AnsL.callP rfl rfl rfl (ok64) (hPl _)) ?_))) |(refine kWL ?_;first |(refine WL.seq ?_) |(refine WL.region (by kernel_rfl) ?_) |(refine WL.block ?_) |(refine WL.skip ?_) |(refine kCond ?_;first |(refine WL.condT' rfl ?_ ?_;(focus (first |(simp <;> omega)))) |(refine WL.condF' rfl ?_ ?_;(focus (first |(simp <;> omega)))))) |(refine lthen_n ?_) |(refine lblock_n ?_)
             refine lbackD.of 1 (by omega) (by omega) ?_ rfl
             repeat' first | exact SubL.nil |(refine SubL.mk rfl ?_ ?_) | rfl |(simp <;> fail) |(simp;omega)
           · have hk8n:¬ e.kind=8:=by omega
             repeat' first |(refine kOps ?_;first |(refine LOps.nil ?_) |(refine kG ?_;first |(refine LOps.gT rfl rfl rfl ?_) |(refine LOps.gF rfl rfl rfl ?_) |(refine LOps.gD false rfl rfl rfl ?_ ?_;(focus (first |(exact decide_eq_false (by assumption)))))) |(refine kStore ?_;refine LOps.storeP tT_ok rfl rfl rfl rfl rfl rfl rfl rfl rfl ?_) |(refine LOps.ev tT_ok rfl ?_) |(refine kAlloc ?_;refine LOps.alloc tT_ok rfl rfl rfl rfl ?_) |(refine kLoad ?_;first |(refine LOps.ans (AnsL.loadP tT_ok rfl rfl rfl rfl) ?_)) |(refine kBin ?_;first |(refine LOps.ans (AnsL.add rfl rfl ?_) ?_;(focus (constructor <;> omega)))) |(refine kIdx ?_;first |(refine LOps.ans (AnsL.idx (j:=0) tT_ok rfl rfl rfl rfl rfl hgs rfl rfl) ?_)) |(refine kCallN 64 ?_;first |(refine LOps.ans (AnsL.callP rfl rfl rfl (ok64) (hPl _)) ?_))) |(refine kWL ?_;first |(refine WL.seq ?_) |(refine WL.region (by kernel_rfl) ?_) |(refine WL.block ?_) |(refine WL.skip ?_) |(refine kCond ?_;first |(refine WL.condF rfl ?_) |(refine WL.condT' rfl ?_ ?_;(focus (first |(simp <;> omega)))))) |(refine lthen_n ?_) |(refine lblock_n ?_)
             refine lbackD.of 1 (by omega) (by omega) ?_ rfl
             repeat' first | exact SubL.nil |(refine SubL.mk rfl ?_ ?_) | rfl |(simp <;> fail) |(simp;omega)
         · dsimp only
           cases o
           all_goals
             repeat' first |(refine kOps ?_;first |(refine LOps.nil ?_) |(refine LOps.ev tT_ok rfl ?_) |(refine kLoad ?_;first |(refine LOps.ans (AnsL.loadP tT_ok rfl rfl rfl rfl) ?_)) |(refine kCallN 65 ?_;first |(refine LOps.ans (AnsL.callP rfl rfl rfl (ok65) (hT _ _)) ?_))) |(refine kWL ?_;first |(refine WL.seq ?_) |(refine WL.region (by kernel_rfl) ?_) |(refine WL.exit ?_) |(refine WL.ret ?_) |(refine kCond ?_;first |(refine WL.condF' rfl ?_ ?_;(focus (first |(simp <;> omega)))))) |(refine lthen_n ?_) |(refine lthen_e ?_) |(refine lblock_e ?_) |(refine lbackD_e ?_) |(refine LPost.r2 (r := .tmp 6) (r' := .tmp 7) (.inl rfl) (Res1.tmp rfl) (Res1.tmp rfl) ?_) |(refine PureR.mk ?_)
             rfl
end Go.Proofs.Ytolhegocbkckdaa
