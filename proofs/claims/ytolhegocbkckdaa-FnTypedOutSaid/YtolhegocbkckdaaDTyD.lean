/-
 The types of plans' trees, of the reference. Own work; no condition.
-/
import Derived.Test.YtolhegocbkckdaaDTyC
namespace Go.Proofs.Ytolhegocbkckdaa
open Go
set_option linter.unusedSimpArgs false
set_option linter.unusedVariables false
theorem optV_un (op a:Int):optV (optT (unT2 op a))=tyV (unT2 op a):=by
 unfold unT2
 repeat' split
 all_goals rfl
theorem optV_bin (op a b:Int):optV (optT (binT op a b))=tyV (binT op a b):=by
 unfold binT
 split <;> rfl
theorem optV_map (o:Option Int):optV (o.map fun _=>3)=tyV (if o.isSome then 3 else 0,o.isSome):=by cases o <;> rfl
theorem tyV_forget (r:Int × Bool):(tyV r).forget=tyV r:=by simp [tyV,V.forget,V.forgetL]
theorem optV_forget (o:Option Int):(optV o).forget=optV o:=tyV_forget _
theorem tyS_nil (c:Cat) (env:List (List Int)):PE.tyS c env []=some []:=by simp only [PE.tyS]
theorem tyS_one (c:Cat) (env:List (List Int)) (p:PL):PE.tyS c env [p]=(PE.tyP c env p).map fun l=>[l]:=by
 simp only [PE.tyS]
 cases PE.tyP c env p <;> rfl
theorem colTy_no {env:List (List Int)} {up pos:Int} (h:inR up 0 ((env.length:Int) - 1)=false):colTy env up pos=none:=by
 simp only [inR,Bool.and_eq_false_iff,decide_eq_false_iff_not] at h
 unfold colTy
 split
 · rw [List.getElem?_eq_none (by omega)];rfl
 · rfl
theorem colTy_no2 {env:List (List Int)} {n:Nat} {pos:Int} (hn:n<env.length) (h:inR pos 0 ((env[n].length:Int) - 1)=false):colTy env n pos=none:=by
 simp only [inR,Bool.and_eq_false_iff,decide_eq_false_iff_not] at h
 unfold colTy
 split
 · rw [Int.toNat_natCast,List.getElem?_eq_getElem hn,Option.bind_some,List.getElem?_eq_none (by omega)]
 · rfl
theorem colTy_yes {env:List (List Int)} {n m:Nat} (hn:n<env.length) (hm:m<env[n].length):colTy env n m=some env[n][m]:=by
 unfold colTy
 rw [if_pos ⟨by omega,by omega⟩,Int.toNat_natCast,Int.toNat_natCast,List.getElem?_eq_getElem hn,Option.bind_some,List.getElem?_eq_getElem hm]
set_option maxHeartbeats 8000000 in
theorem specTypeIn_c (c:Cat) (hc:c.wt≤1048576) (e:PE):wgt e.v≤1048576→TyC Try.prog 27 c e:=by
 induction e using PE.ind with
 | h e ih1 ih2 =>
   intro hw env hb hr s
   have e1:=PE.wgt_eq2 e
   have e2:=kids_w e.kids
   have hkl:=wgt_len PE.toV e.kids
   have hsl:=wgt_len PE.planV e.sub
   have hE0:∀ k∈e.kids,∀ s,VCalls Try.prog 27 [c.toV,envV env,k.v] s (fun v s'=>v=optV (k.ty c env)∧s'=s):=fun k hk=>ih1 k hk (Nat.le_trans (PE.wgt_kid hk) hw) env (by have:=PE.wgt_kid hk;omega) hr
   have hP0:∀ p∈e.sub,∀ s,VCalls Try.prog 69 [c.toV,envV env,p.v] s (fun v s'=>v=typesV (PE.tyP c env p)∧s'=s):=fun p hp=>specPlanTypes_r c p hc (Nat.le_trans (PE.wgt_sub hp) hw) (fun k hk=>ih2 p hp k hk (Nat.le_trans (PL.wgt_part2 hk) (Nat.le_trans (PE.wgt_sub hp) hw))) env (by have:=PE.wgt_sub hp;omega) hr
   have hS:=fun t=>specl20Shape_v e (by omega) (by omega) t
   clear ih1 ih2
   rw [PE.ty_eq]
   cases hsh:e.shape <;> rw [hsh] at hS
   · simp only [Bool.false_eq_true,if_false]
     refine LCalls.pure Try.func27 rfl (by kernel_rfl) (by simp) ?_
     repeat' first |(refine kOps ?_;first |(refine LOps.nil ?_) |(refine LOps.ev tT_ok rfl ?_) |(refine kBox ?_;refine LOps.box rfl rfl rfl rfl ?_) |(refine kLoad ?_;first |(refine LOps.ans (AnsL.loadP tT_ok rfl rfl rfl rfl) ?_)) |(refine kCallN 66 ?_;first |(refine LOps.ans (AnsL.callP rfl rfl rfl (ok66) (hS _)) ?_))) |(refine kWL ?_;first |(refine WL.seq ?_) |(refine WL.region (by kernel_rfl) ?_) |(refine WL.ret ?_) |(refine kCond ?_;first |(refine WL.condT rfl ?_))) |(refine lthen_n ?_) |(refine lthen_r ?_) |(refine LPost.r2 (r := .tmp 6) (r' := .tmp 7) (.inl rfl) (Res1.tmp rfl) (Res1.tmp rfl) ?_) |(refine PureR.mk ?_)
     rfl
   simp only [if_true]
   have hf:=shape_facts hsh
   refine LCalls.pure Try.func27 rfl (by kernel_rfl) (by simp) ?_
   repeat' first |(refine kOps ?_;first |(refine LOps.nil ?_) |(refine LOps.ev tT_ok rfl ?_) |(refine kBox ?_;refine LOps.box rfl rfl rfl rfl ?_) |(refine kBsl ?_;first |(refine LOps.bsl0 tT_ok rfl rfl rfl rfl rfl ?_)) |(refine kLoad ?_;first |(refine LOps.ans (AnsL.loadP tT_ok rfl rfl rfl rfl) ?_)) |(refine kCallN 66 ?_;first |(refine LOps.ans (AnsL.callP rfl rfl rfl (ok66) (hS _)) ?_))) |(refine kWL ?_;first |(refine WL.seq ?_) |(refine WL.region (by kernel_rfl) ?_) |(refine WL.block ?_) |(refine WL.skip ?_) |(refine kCond ?_;first |(refine WL.condF rfl ?_))) |(refine lthen_n ?_)
   refine WL.zfam (t:=8) 1 rfl rfl rfl rfl ?_
   refine WL.loopD (fun x:Nat × List Int=>e.kids.length - x.1) (fun x=>[(1,envV env),(3,.ptr (s.next+0) 0),(5,.ptr (s.next+1) 0),(8,.sl (s.next+2) (x.2.map iV)),(9,.int .i64 (x.1:Int))]) (fun x=>[.var [.sl 0 (c.tables.map Tab.toV)],.var e.v.cells,.fam x.2.length 1])
     (fun x=>x.1≤e.kids.length∧PE.tyL c env (e.kids.take x.1)=some x.2) 3 (0,[]) ⟨by simp,by simp [PE.tyL]⟩ (fun _=>rfl) ⟨rfl,rfl,rfl,rfl,rfl,trivial⟩ rfl (fun i hi=>?_) (fun i hi=>?_)
   · simp [UnderK,UnderX,Own.under,V.under,V.underL,PE.v,V.cells,envV]
   obtain ⟨i,ts⟩:=i
   obtain ⟨hi,ht⟩:=hi
   try dsimp only at hi ht ⊢
   have htl:=PE.tyL_len c env ht
   rw [List.length_take] at htl
   rcases Nat.lt_or_ge i e.kids.length with hlt | hge
   · have hga:(e.kids.map PE.toV)[i]?=some (PE.v e.kids[i]):=by rw [List.getElem?_map,List.getElem?_eq_getElem hlt];simp only [Option.map_some,PE.toV_eq]
     have hE:=hE0 _ (List.getElem_mem hlt)
     have hn:=fun h=>PE.tyL_take_none hlt ht h
     have hs:=fun t h=>PE.tyL_take_some (t:=t) hlt ht h
     generalize e.kids[i]=x at hga hE hn hs
     cases ho:PE.ty c env x with
     | none =>
       rw [ho] at hE
       rw [hn ho]
       repeat' first |(refine kOps ?_;first |(refine LOps.nil ?_) |(refine LOps.ev tT_ok rfl ?_) |(refine kLoad ?_;first |(refine LOps.ans (AnsL.loadP tT_ok rfl rfl rfl rfl) ?_)) |(refine kLen ?_;first |(refine LOps.ans (AnsL.lenM tT_ok rfl rfl rfl) ?_))) |(refine kWL ?_;first |(refine WL.seq ?_) |(refine WL.region (by kernel_rfl) ?_) |(refine WL.drawn (id:=7) [0,1,2,3,4,5,6,7,8,9,10,11,12] [] [[],[],[],[2],[],[2,3,4],[2,3,4,5],[0,1,2,3,4,5,6],[0,1,2,3,4,5,6,7],[0,1,2,3,4,5,6,7,8],[0,1,2,3,4,5,6,7,8],[0,1,2,3,4,5,6,7,8,9],[0,1,2,3,4,5,6,7,8,9,10,11]] (by kernel_rfl) (by kernel_rfl) ?_) |(refine WL.block ?_) |(refine WL.skip ?_) |(refine WL.ret ?_) |(refine kCond ?_;first |(refine WL.condT rfl ?_) |(refine WL.condT' rfl ?_ ?_;(focus (first |(simp <;> omega)))))) |(refine kDr ?_;first |(refine LDr.nil ?_) |(refine LDr.fl rfl rfl (.ev tT_ok rfl) ?_) |(refine kDLoad rfl ?_;first |(refine LDr.fl rfl rfl (AnsL.loadP tT_ok rfl rfl rfl rfl) ?_)) |(refine kDIdx rfl ?_;first |(refine LDr.fl rfl rfl (AnsL.idx tT_ok rfl rfl rfl rfl rfl hga rfl rfl) ?_)) |(refine kDCallN 27 rfl ?_;first |(refine LDr.fl rfl rfl (AnsL.callP rfl rfl rfl (ok27) (hE _)) ?_))) |(refine lthen_n ?_) |(refine lthen_r ?_) |(refine lblock_r ?_) |(refine lbackD_r ?_) |(refine LPost.r2 (r := .tmp 6) (r' := .tmp 7) (.inl rfl) (Res1.tmp rfl) (Res1.tmp rfl) ?_) |(refine PureR.mk ?_)
       rfl
     | some t =>
       rw [ho] at hE
       have hs:=hs t ho
       repeat' first |(refine kOps ?_;first |(refine LOps.nil ?_) |(refine LOps.ev tT_ok rfl ?_) |(refine kBsl ?_;first |(refine LOps.bsl tT_ok rfl rfl rfl rfl rfl rfl rfl rfl rfl rfl rfl ?_)) |(refine kApp ?_;first |(refine LOps.app tT_ok rfl rfl rfl rfl rfl rfl rfl rfl rfl rfl rfl ?_ ?_ (AppB.of ?_ rfl) ?_;(focus (first | rfl |(simp <;> fail)));(focus (first | exact Elems.of rfl | exact Elems.map fun _=>rfl | exact PE.els _ (fun _=>rfl) _));(focus (first | omega |(simp;omega))))) |(refine kLoad ?_;first |(refine LOps.ans (AnsL.loadP tT_ok rfl rfl rfl rfl) ?_)) |(refine kLen ?_;first |(refine LOps.ans (AnsL.lenM tT_ok rfl rfl rfl) ?_)) |(refine kBin ?_;first |(refine LOps.ans (AnsL.add rfl rfl ?_) ?_;(focus (constructor <;> omega))))) |(refine kWL ?_;first |(refine WL.seq ?_) |(refine WL.region (by kernel_rfl) ?_) |(refine WL.drawn (id:=7) [0,1,2,3,4,5,6,7,8,9,10,11,12] [] [[],[],[],[2],[],[2,3,4],[2,3,4,5],[0,1,2,3,4,5,6],[0,1,2,3,4,5,6,7],[0,1,2,3,4,5,6,7,8],[0,1,2,3,4,5,6,7,8],[0,1,2,3,4,5,6,7,8,9],[0,1,2,3,4,5,6,7,8,9,10,11]] (by kernel_rfl) (by kernel_rfl) ?_) |(refine WL.block ?_) |(refine WL.skip ?_) |(refine kCond ?_;first |(refine WL.condF rfl ?_) |(refine WL.condT' rfl ?_ ?_;(focus (first |(simp <;> omega)))))) |(refine kDr ?_;first |(refine LDr.nil ?_) |(refine LDr.fl rfl rfl (.ev tT_ok rfl) ?_) |(refine kDLoad rfl ?_;first |(refine LDr.fl rfl rfl (AnsL.loadP tT_ok rfl rfl rfl rfl) ?_)) |(refine kDIdx rfl ?_;first |(refine LDr.fl rfl rfl (AnsL.idx tT_ok rfl rfl rfl rfl rfl hga rfl rfl) ?_)) |(refine kDCallN 27 rfl ?_;first |(refine LDr.fl rfl rfl (AnsL.callP rfl rfl rfl (ok27) (hE _)) ?_))) |(refine lthen_n ?_) |(refine lblock_n ?_)
       refine lbackD.of (i+1,ts++[t]) ⟨hlt,hs⟩ (by show e.kids.length - (i+1)<e.kids.length - i;omega) ?_ ?_
       · rw [List.map_append]
         repeat' first | exact SubL.nil |(refine SubL.mk rfl ?_ ?_) | rfl |(simp <;> fail) |(simp;omega)
       · simp [PE.v,V.cells]
   rw [List.take_of_length_le hge] at ht
   rw [Nat.min_eq_right (by omega)] at htl
   rw [ht]
   dsimp only
   clear hE0
   have hM:∀ id t,VCalls Try.prog 71 [.sl id (ts.map iV)] t (fun v t'=>v = .bool (meetL 0 ts).isSome∧t'=t):=fun id t=>VCalls.forget (by
     rw [show List.map V.forget [V.sl id (ts.map iV)]=[ints ts] by simp [V.forget,V.forgetL_eq,ints]]
     exact specl20Meet_v ts (by omega) t)
   rcases hf with ⟨hk,h1,h2⟩ | ⟨hk,h1,h2⟩ | ⟨hk,⟨a,h1⟩,h2⟩ | ⟨hk,⟨a,b,h1⟩,h2⟩ | ⟨hk,h2⟩ | ⟨hk,h2⟩ | ⟨hk,h2⟩ | ⟨hk,p,h2⟩ | ⟨hk,h1,p,h2⟩
   · have e3:PE.tyS c env e.sub=some []:=by rw [h2,tyS_nil]
     rw [e3]
     simp only [resT,hk,if_true]
     repeat' first |(refine kOps ?_;first |(refine LOps.nil ?_) |(refine LOps.ev tT_ok rfl ?_) |(refine kLoad ?_;first |(refine LOps.ans (AnsL.loadP tT_ok rfl rfl rfl rfl) ?_)) |(refine kLen ?_;first |(refine LOps.ans (AnsL.lenM tT_ok rfl rfl rfl) ?_))) |(refine kWL ?_;first |(refine WL.seq ?_) |(refine WL.region (by kernel_rfl) ?_) |(refine WL.block ?_) |(refine WL.exit ?_) |(refine WL.ret ?_) |(refine kCond ?_;first |(refine WL.condT' rfl ?_ ?_;(focus (first |(exact decide_eq_true (by assumption))))) |(refine WL.condF' rfl ?_ ?_;(focus (first |(simp <;> omega)))))) |(refine lthen_n ?_) |(refine lthen_r ?_) |(refine lthen_e ?_) |(refine lblock_r ?_) |(refine lblock_e ?_) |(refine lbackD_e ?_) |(refine LPost.r2 (r := .tmp 6) (r' := .tmp 7) (.inl rfl) (Res1.tmp rfl) (Res1.tmp rfl) ?_) |(refine PureR.mk ?_)
     rfl
   · have e3:PE.tyS c env e.sub=some []:=by rw [h2,tyS_nil]
     rw [e3]
     have hk1:¬ e.kind=1:=by omega
     simp only [resT,hk1,hk,if_true,if_false]
     have hI1:=fun t=>specl1In_v e.up 0 ((env.length:Int) - 1) t
     cases hin:inR e.up 0 ((env.length:Int) - 1) <;> rw [hin] at hI1
     · rw [colTy_no hin]
       repeat' first |(refine kOps ?_;first |(refine LOps.nil ?_) |(refine LOps.ev tT_ok rfl ?_) |(refine kLoad ?_;first |(refine LOps.ans (AnsL.loadP tT_ok rfl rfl rfl rfl) ?_)) |(refine kLen ?_;first |(refine LOps.ans (AnsL.lenM tT_ok rfl rfl rfl) ?_))) |(refine kWL ?_;first |(refine WL.seq ?_) |(refine WL.region (by kernel_rfl) ?_) |(refine WL.drawn (id:=15) [0,1,2,3,4,5,6,7,8,9,10,11,12,13,14,15,16,17,18,19] [] [[],[0],[],[2],[2,3],[0,1,2,3,4],[0,1,2,3,4,5],[0,1,2,3,4,5,6],[0,1,2,3,4,5,6,7],[0,1,2,3,4,5,6,7,8],[0,1,2,3,4,5,6,7],[0,1,2,3,4,5,6,7],[0,1,2,3,4,5,6,7,11],[0,1,2,3,4,5,6,7,10,11,12],[0,1,2,3,4,5,6,7,10,11,12,13],[0,1,2,3,4,5,6,7,10,11,12,13,14],[0,1,2,3,4,5,6,7,10,11,12,13,14,15],[0,1,2,3,4,5,6,7,8,9,10,11,12,13,14,15,16],[0,1,2,3,4,5,6,7,8,9,10,11,12,13,14,15,16,17],[0,1,2,3,4,5,6,7,8,9,10,11,12,13,14,15,16,17,18]] (by kernel_rfl) (by kernel_rfl) ?_) |(refine WL.block ?_) |(refine WL.exit ?_) |(refine WL.ret ?_) |(refine kCond ?_;first |(refine WL.condT rfl ?_) |(refine WL.condT' rfl ?_ ?_;(focus (first |(exact decide_eq_true (by assumption))))) |(refine WL.condF' rfl ?_ ?_;(focus (first |(exact decide_eq_false (by assumption)) |(simp <;> omega)))))) |(refine kDr ?_;first |(refine LDr.nil ?_) |(refine LDr.fl rfl rfl (.ev tT_ok rfl) ?_) |(refine LDr.gF rfl rfl rfl rfl rfl ?_) |(refine kDLoad rfl ?_;first |(refine LDr.fl rfl rfl (AnsL.loadP tT_ok rfl rfl rfl rfl) ?_)) |(refine kDLen rfl ?_;first |(refine LDr.fl rfl rfl (AnsL.lenM tT_ok rfl rfl rfl) ?_)) |(refine kDBin rfl ?_;first |(refine LDr.fl rfl rfl (AnsL.sub rfl rfl ?_) ?_;(focus (constructor <;> omega)))) |(refine kDCallN 36 rfl ?_;first |(refine LDr.fl rfl rfl (AnsL.callP rfl rfl rfl (ok36) (hI1 _)) ?_))) |(refine lthen_n ?_) |(refine lthen_r ?_) |(refine lthen_e ?_) |(refine lblock_r ?_) |(refine lblock_e ?_) |(refine lbackD_e ?_) |(refine LPost.r2 (r := .tmp 6) (r' := .tmp 7) (.inl rfl) (Res1.tmp rfl) (Res1.tmp rfl) ?_) |(refine PureR.mk ?_)
       rfl
     simp only [inR,Bool.and_eq_true,decide_eq_true_eq] at hin
     obtain ⟨n,hn⟩:∃ n:Nat,e.up=(n:Int):=⟨e.up.toNat,by omega⟩
     have hnl:n<env.length:=by omega
     have hrl:=hr _ (List.getElem_mem hnl)
     have hgu:(env.map ints)[n]?=some (ints env[n]):=by simp [hnl]
     have hI2:=fun t=>specl1In_v e.pos 0 ((env[n].length:Int) - 1) t
     have hcn:=fun h=>colTy_no2 (pos:=e.pos) hnl h
     have hcy:=fun m h=>colTy_yes (m:=m) hnl h
     rw [hn]
     generalize env[n]=row at hrl hgu hI2 hcn hcy
     cases hin2:inR e.pos 0 ((row.length:Int) - 1) <;> rw [hin2] at hI2
     · rw [hcn hin2]
       repeat' first |(refine kOps ?_;first |(refine LOps.nil ?_) |(refine LOps.ev tT_ok rfl ?_) |(refine kLoad ?_;first |(refine LOps.ans (AnsL.loadP tT_ok rfl rfl rfl rfl) ?_)) |(refine kLen ?_;first |(refine LOps.ans (AnsL.lenM tT_ok rfl rfl rfl) ?_))) |(refine kWL ?_;first |(refine WL.seq ?_) |(refine WL.region (by kernel_rfl) ?_) |(refine WL.drawn (id:=15) [0,1,2,3,4,5,6,7,8,9,10,11,12,13,14,15,16,17,18,19] [] [[],[0],[],[2],[2,3],[0,1,2,3,4],[0,1,2,3,4,5],[0,1,2,3,4,5,6],[0,1,2,3,4,5,6,7],[0,1,2,3,4,5,6,7,8],[0,1,2,3,4,5,6,7],[0,1,2,3,4,5,6,7],[0,1,2,3,4,5,6,7,11],[0,1,2,3,4,5,6,7,10,11,12],[0,1,2,3,4,5,6,7,10,11,12,13],[0,1,2,3,4,5,6,7,10,11,12,13,14],[0,1,2,3,4,5,6,7,10,11,12,13,14,15],[0,1,2,3,4,5,6,7,8,9,10,11,12,13,14,15,16],[0,1,2,3,4,5,6,7,8,9,10,11,12,13,14,15,16,17],[0,1,2,3,4,5,6,7,8,9,10,11,12,13,14,15,16,17,18]] (by kernel_rfl) (by kernel_rfl) ?_) |(refine WL.block ?_) |(refine WL.exit ?_) |(refine WL.ret ?_) |(refine kCond ?_;first |(refine WL.condT rfl ?_) |(refine WL.condT' rfl ?_ ?_;(focus (first |(exact decide_eq_true (by assumption))))) |(refine WL.condF' rfl ?_ ?_;(focus (first |(exact decide_eq_false (by assumption)) |(simp <;> omega)))))) |(refine kDr ?_;first |(refine LDr.nil ?_) |(refine LDr.fl rfl rfl (.ev tT_ok rfl) ?_) |(refine LDr.gT rfl rfl rfl rfl rfl (.ev tT_ok rfl) ?_) |(refine kDLoad rfl ?_;first |(refine LDr.fl rfl rfl (AnsL.loadP tT_ok rfl rfl rfl rfl) ?_) |(refine LDr.gT rfl rfl rfl rfl rfl (AnsL.loadP tT_ok rfl rfl rfl rfl) ?_)) |(refine kDLen rfl ?_;first |(refine LDr.fl rfl rfl (AnsL.lenM tT_ok rfl rfl rfl) ?_) |(refine LDr.gT rfl rfl rfl rfl rfl (AnsL.lenM tT_ok rfl rfl rfl) ?_)) |(refine kDBin rfl ?_;first |(refine LDr.fl rfl rfl (AnsL.sub rfl rfl ?_) ?_;(focus (constructor <;> omega))) |(refine LDr.gT rfl rfl rfl rfl rfl (AnsL.sub rfl rfl ?_) ?_;(focus (constructor <;> omega)))) |(refine kDIdx rfl ?_;first |(refine LDr.gT rfl rfl rfl rfl rfl (AnsL.idx (j:=n) tT_ok rfl (congrArg (fun z=>some (V.int .i64 z)) hn) rfl rfl rfl hgu rfl rfl) ?_)) |(refine kDCallN 36 rfl ?_;first |(refine LDr.fl rfl rfl (AnsL.callP rfl rfl rfl (ok36) (hI1 _)) ?_) |(refine LDr.gT rfl rfl rfl rfl rfl (AnsL.callP rfl rfl rfl (ok36) (hI2 _)) ?_))) |(refine lthen_n ?_) |(refine lthen_r ?_) |(refine lthen_e ?_) |(refine lblock_r ?_) |(refine lblock_e ?_) |(refine lbackD_e ?_) |(refine LPost.r2 (r := .tmp 6) (r' := .tmp 7) (.inl rfl) (Res1.tmp rfl) (Res1.tmp rfl) ?_) |(refine PureR.mk ?_)
       rfl
     simp only [inR,Bool.and_eq_true,decide_eq_true_eq] at hin2
     obtain ⟨m,hm⟩:∃ m:Nat,e.pos=(m:Int):=⟨e.pos.toNat,by omega⟩
     have hml:m<row.length:=by omega
     have hgv:(row.map iV)[m]?=some (iV row[m]):=by simp [hml]
     rw [hm,hcy m hml]
     repeat' first |(refine kOps ?_;first |(refine LOps.nil ?_) |(refine LOps.ev tT_ok rfl ?_) |(refine kLoad ?_;first |(refine LOps.ans (AnsL.loadP tT_ok rfl rfl rfl rfl) ?_)) |(refine kLen ?_;first |(refine LOps.ans (AnsL.lenM tT_ok rfl rfl rfl) ?_))) |(refine kWL ?_;first |(refine WL.seq ?_) |(refine WL.region (by kernel_rfl) ?_) |(refine WL.drawn (id:=15) [0,1,2,3,4,5,6,7,8,9,10,11,12,13,14,15,16,17,18,19] [] [[],[0],[],[2],[2,3],[0,1,2,3,4],[0,1,2,3,4,5],[0,1,2,3,4,5,6],[0,1,2,3,4,5,6,7],[0,1,2,3,4,5,6,7,8],[0,1,2,3,4,5,6,7],[0,1,2,3,4,5,6,7],[0,1,2,3,4,5,6,7,11],[0,1,2,3,4,5,6,7,10,11,12],[0,1,2,3,4,5,6,7,10,11,12,13],[0,1,2,3,4,5,6,7,10,11,12,13,14],[0,1,2,3,4,5,6,7,10,11,12,13,14,15],[0,1,2,3,4,5,6,7,8,9,10,11,12,13,14,15,16],[0,1,2,3,4,5,6,7,8,9,10,11,12,13,14,15,16,17],[0,1,2,3,4,5,6,7,8,9,10,11,12,13,14,15,16,17,18]] (by kernel_rfl) (by kernel_rfl) ?_) |(refine WL.drawn (id:=17) [0,1,2,3,4,5,6,7,8,9,10] [] [[],[],[1],[0,1,2],[0,1,2,3],[],[5],[0,1,2,3,4,5,6],[0,1,2,3,4,5,6,7],[0,1,2,3,4,5,6,7,8],[0,1,2,3,4,5,6,7,8,9]] (by kernel_rfl) (by kernel_rfl) ?_) |(refine WL.block ?_) |(refine WL.exit ?_) |(refine WL.skip ?_) |(refine WL.ret ?_) |(refine kCond ?_;first |(refine WL.condF rfl ?_) |(refine WL.condT' rfl ?_ ?_;(focus (first |(exact decide_eq_true (by assumption))))) |(refine WL.condF' rfl ?_ ?_;(focus (first |(exact decide_eq_false (by assumption)) |(simp <;> omega)))))) |(refine kDr ?_;first |(refine LDr.nil ?_) |(refine LDr.fl rfl rfl (.ev tT_ok rfl) ?_) |(refine LDr.gT rfl rfl rfl rfl rfl (.ev tT_ok rfl) ?_) |(refine kDLoad rfl ?_;first |(refine LDr.fl rfl rfl (AnsL.loadP tT_ok rfl rfl rfl rfl) ?_) |(refine LDr.gT rfl rfl rfl rfl rfl (AnsL.loadP tT_ok rfl rfl rfl rfl) ?_)) |(refine kDLen rfl ?_;first |(refine LDr.fl rfl rfl (AnsL.lenM tT_ok rfl rfl rfl) ?_) |(refine LDr.gT rfl rfl rfl rfl rfl (AnsL.lenM tT_ok rfl rfl rfl) ?_)) |(refine kDBin rfl ?_;first |(refine LDr.fl rfl rfl (AnsL.sub rfl rfl ?_) ?_;(focus (constructor <;> omega))) |(refine LDr.gT rfl rfl rfl rfl rfl (AnsL.sub rfl rfl ?_) ?_;(focus (constructor <;> omega)))) |(refine kDIdx rfl ?_;first |(refine LDr.fl rfl rfl (AnsL.idx (j:=n) tT_ok rfl (congrArg (fun z=>some (V.int .i64 z)) hn) rfl rfl rfl hgu rfl rfl) ?_) |(refine LDr.gT rfl rfl rfl rfl rfl (AnsL.idx (j:=n) tT_ok rfl (congrArg (fun z=>some (V.int .i64 z)) hn) rfl rfl rfl hgu rfl rfl) ?_) |(refine LDr.fl rfl rfl (AnsL.idx (j:=m) tT_ok rfl (congrArg (fun z=>some (V.int .i64 z)) hm) rfl rfl rfl hgv rfl rfl) ?_)) |(refine kDCallN 36 rfl ?_;first |(refine LDr.fl rfl rfl (AnsL.callP rfl rfl rfl (ok36) (hI1 _)) ?_) |(refine LDr.gT rfl rfl rfl rfl rfl (AnsL.callP rfl rfl rfl (ok36) (hI2 _)) ?_))) |(refine lthen_n ?_) |(refine lthen_r ?_) |(refine lthen_e ?_) |(refine lblock_r ?_) |(refine lblock_e ?_) |(refine lbackD_e ?_) |(refine LPost.r2 (r := .tmp 6) (r' := .tmp 7) (.inl rfl) (Res1.tmp rfl) (Res1.tmp rfl) ?_) |(refine PureR.mk ?_)
     rfl
   · have e3:PE.tyS c env e.sub=some []:=by rw [h2,tyS_nil]
     rw [e3]
     have hk1:¬ e.kind=1:=by omega
     have hk2:¬ e.kind=2:=by omega
     rw [h1] at htl
     obtain ⟨x,rfl⟩:=List.length_eq_one_iff.1 htl
     simp only [resT,hk1,hk2,hk,if_true,if_false,List.headD_cons,optV_un]
     have hU:=fun t=>specUnType_t e.op x t
     have hg:([x].map iV)[0]?=some (iV x):=rfl
     repeat' first |(refine kOps ?_;first |(refine LOps.nil ?_) |(refine LOps.ev tT_ok rfl ?_) |(refine kLoad ?_;first |(refine LOps.ans (AnsL.loadP tT_ok rfl rfl rfl rfl) ?_)) |(refine kLen ?_;first |(refine LOps.ans (AnsL.lenM tT_ok rfl rfl rfl) ?_))) |(refine kWL ?_;first |(refine WL.seq ?_) |(refine WL.region (by kernel_rfl) ?_) |(refine WL.drawn (id:=19) [0,1,2,3,4,5,6,7,8,9] [] [[],[0],[],[2],[2,3],[0,1,2,3,4],[0,1,2,3,4,5],[0,1,2,3,4,5],[0,1,2,3,4,5,6,7],[0,1,2,3,4,5,6,7,8]] (by kernel_rfl) (by kernel_rfl) ?_) |(refine WL.block ?_) |(refine WL.exit ?_) |(refine WL.ret ?_) |(refine kCond ?_;first |(refine WL.condT' rfl ?_ ?_;(focus (first |(exact decide_eq_true (by assumption))))) |(refine WL.condF' rfl ?_ ?_;(focus (first |(exact decide_eq_false (by assumption)) |(simp <;> omega)))))) |(refine kDr ?_;first |(refine LDr.nil ?_) |(refine LDr.fl rfl rfl (.ev tT_ok rfl) ?_) |(refine kDLoad rfl ?_;first |(refine LDr.fl rfl rfl (AnsL.loadP tT_ok rfl rfl rfl rfl) ?_)) |(refine kDIdx rfl ?_;first |(refine LDr.fl rfl rfl (AnsL.idx (j:=0) tT_ok rfl rfl rfl rfl rfl hg rfl rfl) ?_)) |(refine kDCallN 67 rfl ?_;first |(refine LDr.fl rfl rfl (AnsL.callP rfl rfl rfl (ok67) (hU _)) ?_))) |(refine lthen_n ?_) |(refine lthen_r ?_) |(refine lthen_e ?_) |(refine lblock_r ?_) |(refine lblock_e ?_) |(refine lbackD_e ?_) |(refine LPost.r2 (r := .tmp 6) (r' := .tmp 7) (.inl rfl) (Res1.tmp rfl) (Res1.tmp rfl) ?_) |(refine PureR.mk ?_)
     all_goals (simp [optV_un,tyV,V.forget,V.forgetL];done)
   · have e3:PE.tyS c env e.sub=some []:=by rw [h2,tyS_nil]
     rw [e3]
     have hk1:¬ e.kind=1:=by omega
     have hk2:¬ e.kind=2:=by omega
     have hk3:¬ e.kind=3:=by omega
     rw [h1] at htl
     obtain ⟨x,y,rfl⟩:=len_two htl
     simp only [resT,hk1,hk2,hk3,hk,if_true,if_false,List.headD_cons,List.drop_one,List.tail_cons,optV_bin]
     have hU:=fun t=>specBinType_t e.op x y t
     have hg:([x,y].map iV)[0]?=some (iV x):=rfl
     have hg2:([x,y].map iV)[1]?=some (iV y):=rfl
     repeat' first |(refine kOps ?_;first |(refine LOps.nil ?_) |(refine LOps.ev tT_ok rfl ?_) |(refine kLoad ?_;first |(refine LOps.ans (AnsL.loadP tT_ok rfl rfl rfl rfl) ?_)) |(refine kLen ?_;first |(refine LOps.ans (AnsL.lenM tT_ok rfl rfl rfl) ?_))) |(refine kWL ?_;first |(refine WL.seq ?_) |(refine WL.region (by kernel_rfl) ?_) |(refine WL.drawn (id:=21) [0,1,2,3,4,5,6,7,8,9,10,11,12] [] [[],[0],[],[2],[2,3],[],[5],[5,6],[0,1,2,3,4,5,6,7],[0,1,2,3,4,5,6,7,8],[0,1,2,3,4,5,6,7,8],[0,1,2,3,4,5,6,7,8,9,10],[0,1,2,3,4,5,6,7,8,9,10,11]] (by kernel_rfl) (by kernel_rfl) ?_) |(refine WL.block ?_) |(refine WL.exit ?_) |(refine WL.ret ?_) |(refine kCond ?_;first |(refine WL.condT' rfl ?_ ?_;(focus (first |(exact decide_eq_true (by assumption))))) |(refine WL.condF' rfl ?_ ?_;(focus (first |(exact decide_eq_false (by assumption)) |(simp <;> omega)))))) |(refine kDr ?_;first |(refine LDr.nil ?_) |(refine LDr.fl rfl rfl (.ev tT_ok rfl) ?_) |(refine kDLoad rfl ?_;first |(refine LDr.fl rfl rfl (AnsL.loadP tT_ok rfl rfl rfl rfl) ?_)) |(refine kDIdx rfl ?_;first |(refine LDr.fl rfl rfl (AnsL.idx (j:=0) tT_ok rfl rfl rfl rfl rfl hg rfl rfl) ?_) |(refine LDr.fl rfl rfl (AnsL.idx (j:=1) tT_ok rfl rfl rfl rfl rfl hg2 rfl rfl) ?_)) |(refine kDCallN 68 rfl ?_;first |(refine LDr.fl rfl rfl (AnsL.callP rfl rfl rfl (ok68) (hU _)) ?_))) |(refine lthen_n ?_) |(refine lthen_r ?_) |(refine lthen_e ?_) |(refine lblock_r ?_) |(refine lblock_e ?_) |(refine lbackD_e ?_) |(refine LPost.r2 (r := .tmp 6) (r' := .tmp 7) (.inl rfl) (Res1.tmp rfl) (Res1.tmp rfl) ?_) |(refine PureR.mk ?_)
     all_goals (simp [optV_bin,tyV,V.forget,V.forgetL];done)
   · have e3:PE.tyS c env e.sub=some []:=by rw [h2,tyS_nil]
     rw [e3]
     try dsimp only
     have hs0:e.sub.length=0:=by rw [h2];rfl
     simp only [resT,hk]
     repeat' first |(refine kOps ?_;first |(refine LOps.nil ?_) |(refine LOps.ev tT_ok rfl ?_) |(refine kLoad ?_;first |(refine LOps.ans (AnsL.loadP tT_ok rfl rfl rfl rfl) ?_)) |(refine kLen ?_;first |(refine LOps.ans (AnsL.lenM tT_ok rfl rfl rfl) ?_))) |(refine kWL ?_;first |(refine WL.seq ?_) |(refine WL.region (by kernel_rfl) ?_) |(refine WL.block ?_) |(refine WL.exit ?_) |(refine WL.skip ?_) |(refine WL.ret ?_) |(refine kCond ?_;first |(refine WL.condT' rfl ?_ ?_;(focus (first |(exact decide_eq_true (by assumption))))) |(refine WL.condF' rfl ?_ ?_;(focus (first |(simp <;> omega)))))) |(refine lthen_n ?_) |(refine lthen_r ?_) |(refine lthen_e ?_) |(refine lblock_n ?_) |(refine lblock_e ?_) |(refine lbackD_e ?_) |(refine LPost.r2 (r := .tmp 6) (r' := .tmp 7) (.inl rfl) (Res1.tmp rfl) (Res1.tmp rfl) ?_) |(refine PureR.mk ?_)
     rfl
   · have e3:PE.tyS c env e.sub=some []:=by rw [h2,tyS_nil]
     rw [e3]
     try dsimp only
     have hs0:e.sub.length=0:=by rw [h2];rfl
     rw [show resT env e.kind e.op e.value e.up e.pos ts []=(meetL 0 ts).map fun _=>3 by simp [resT,hk],optV_map]
     generalize (meetL 0 ts).isSome=b at hM ⊢
     cases b
     all_goals
       repeat' first |(refine kOps ?_;first |(refine LOps.nil ?_) |(refine LOps.ev tT_ok rfl ?_) |(refine kLoad ?_;first |(refine LOps.ans (AnsL.loadP tT_ok rfl rfl rfl rfl) ?_)) |(refine kLen ?_;first |(refine LOps.ans (AnsL.lenM tT_ok rfl rfl rfl) ?_)) |(refine kCallN 70 ?_;first |(refine LOps.ans (AnsL.callP rfl rfl rfl (ok70) (specl17If_t _ _ _)) ?_)) |(refine kCallN 71 ?_;first |(refine LOps.ans (AnsL.callP rfl rfl rfl (ok71) (hM _ _)) ?_))) |(refine kWL ?_;first |(refine WL.seq ?_) |(refine WL.region (by kernel_rfl) ?_) |(refine WL.block ?_) |(refine WL.exit ?_) |(refine WL.skip ?_) |(refine WL.ret ?_) |(refine kCond ?_;first |(refine WL.condF' rfl ?_ ?_;(focus (first |(simp <;> omega)))))) |(refine lthen_n ?_) |(refine lthen_e ?_) |(refine lblock_n ?_) |(refine lblock_e ?_) |(refine lbackD_e ?_) |(refine LPost.r2 (r := .tmp 6) (r' := .tmp 7) (.inl rfl) (Res1.tmp rfl) (Res1.tmp rfl) ?_) |(refine PureR.mk ?_)
       simp [tyV,V.forget,V.forgetL]
   · have e3:PE.tyS c env e.sub=some []:=by rw [h2,tyS_nil]
     rw [e3]
     try dsimp only
     have hs0:e.sub.length=0:=by rw [h2];rfl
     rw [show resT env e.kind e.op e.value e.up e.pos ts []=(meetL 0 ts).map fun _=>3 by simp [resT,hk],optV_map]
     generalize (meetL 0 ts).isSome=b at hM ⊢
     cases b
     all_goals
       repeat' first |(refine kOps ?_;first |(refine LOps.nil ?_) |(refine LOps.ev tT_ok rfl ?_) |(refine kLoad ?_;first |(refine LOps.ans (AnsL.loadP tT_ok rfl rfl rfl rfl) ?_)) |(refine kLen ?_;first |(refine LOps.ans (AnsL.lenM tT_ok rfl rfl rfl) ?_)) |(refine kCallN 70 ?_;first |(refine LOps.ans (AnsL.callP rfl rfl rfl (ok70) (specl17If_t _ _ _)) ?_)) |(refine kCallN 71 ?_;first |(refine LOps.ans (AnsL.callP rfl rfl rfl (ok71) (hM _ _)) ?_))) |(refine kWL ?_;first |(refine WL.seq ?_) |(refine WL.region (by kernel_rfl) ?_) |(refine WL.block ?_) |(refine WL.exit ?_) |(refine WL.skip ?_) |(refine WL.ret ?_) |(refine kCond ?_;first |(refine WL.condF' rfl ?_ ?_;(focus (first |(simp <;> omega)))))) |(refine lthen_n ?_) |(refine lthen_e ?_) |(refine lblock_n ?_) |(refine lblock_e ?_) |(refine lbackD_e ?_) |(refine LPost.r2 (r := .tmp 6) (r' := .tmp 7) (.inl rfl) (Res1.tmp rfl) (Res1.tmp rfl) ?_) |(refine PureR.mk ?_)
       simp [tyV,V.forget,V.forgetL]
   · have hPl:=hP0 p (by rw [h2];simp)
     have hs1:e.sub.length=1:=by rw [h2];rfl
     have hgs:(e.sub.map PE.planV)[0]?=some (PL.v p):=by rw [h2];simp [PE.planV_eq]
     rw [h2,tyS_one]
     cases hty:PE.tyP c env p with
     | none =>
       rw [hty] at hPl
       repeat' first |(refine kOps ?_;first |(refine LOps.nil ?_) |(refine kG ?_;first |(refine LOps.gF rfl rfl rfl ?_) |(refine LOps.gU rfl rfl ?_)) |(refine LOps.ev tT_ok rfl ?_) |(refine kLoad ?_;first |(refine LOps.ans (AnsL.loadP tT_ok rfl rfl rfl rfl) ?_)) |(refine kLen ?_;first |(refine LOps.ans (AnsL.lenM tT_ok rfl rfl rfl) ?_))) |(refine kWL ?_;first |(refine WL.seq ?_) |(refine WL.region (by kernel_rfl) ?_) |(refine WL.drawn (id:=23) [0,1,2,3,4,5,6,7,8,9,10,11] [] [[],[],[],[2],[2,3],[2,3,4],[0,1,2,3,4,5],[0,1,2,3,4,5,6],[0,1,2,3,4,5,6,7],[0,1,2,3,4,5,6,7],[0,1,2,3,4,5,6,7,8],[0,1,2,3,4,5,6,7,8,9,10]] (by kernel_rfl) (by kernel_rfl) ?_) |(refine WL.block ?_) |(refine WL.exit ?_) |(refine WL.skip ?_) |(refine WL.ret ?_) |(refine kCond ?_;first |(refine WL.condT rfl ?_) |(refine WL.condT' rfl ?_ ?_;(focus (first |(simp <;> omega)))) |(refine WL.condF' rfl ?_ ?_;(focus (first |(simp <;> omega)))))) |(refine kDr ?_;first |(refine LDr.nil ?_) |(refine LDr.fl rfl rfl (.ev tT_ok rfl) ?_) |(refine kDLoad rfl ?_;first |(refine LDr.fl rfl rfl (AnsL.loadP tT_ok rfl rfl rfl rfl) ?_)) |(refine kDIdx rfl ?_;first |(refine LDr.fl rfl rfl (AnsL.idx (j:=0) tT_ok rfl rfl rfl rfl rfl hgs rfl rfl) ?_)) |(refine kDCallN 69 rfl ?_;first |(refine LDr.fl rfl rfl (AnsL.callP rfl rfl rfl (ok69) (hPl _)) ?_))) |(refine lthen_n ?_) |(refine lthen_r ?_) |(refine lthen_e ?_) |(refine lblock_n ?_) |(refine lblock_e ?_) |(refine lbackD_e ?_) |(refine LPost.r2 (r := .tmp 6) (r' := .tmp 7) (.inl rfl) (Res1.tmp rfl) (Res1.tmp rfl) ?_) |(refine PureR.mk ?_)
       rfl
     | some l =>
       rw [hty] at hPl
       simp only [Option.map_some]
       try dsimp only
       by_cases hl1:l.length=1
       · obtain ⟨x,rfl⟩:=List.length_eq_one_iff.1 hl1
         have hM:∀ id t,VCalls Try.prog 71 [.sl id (ts.map iV++[iV x])] t (fun v t'=>v = .bool (meetL 0 (ts++[x])).isSome∧t'=t):=fun id t=>VCalls.forget (by
           rw [show List.map V.forget [V.sl id (ts.map iV++[iV x])]=[ints (ts++[x])] by simp [V.forget,V.forgetL_eq,ints]]
           exact specl20Meet_v (ts++[x]) (by simp;omega) t)
         rw [show resT env e.kind e.op e.value e.up e.pos ts [[x]]=(meetL 0 (ts++[x])).map fun _=>3 by simp [resT,hk],optV_map]
         have hg:([x].map iV)[0]?=some (iV x):=rfl
         generalize (meetL 0 (ts++[x])).isSome=b at hM ⊢
         cases b
         all_goals
           repeat' first |(refine kOps ?_;first |(refine LOps.nil ?_) |(refine kG ?_;first |(refine LOps.gT rfl rfl rfl ?_) |(refine LOps.gD true rfl rfl rfl ?_ ?_;(focus (first |(exact decide_eq_true (by assumption)))))) |(refine LOps.ev tT_ok rfl ?_) |(refine kBsl ?_;first |(refine LOps.bsl tT_ok rfl rfl rfl rfl rfl rfl rfl rfl rfl rfl rfl ?_)) |(refine kApp ?_;first |(refine LOps.app tT_ok rfl rfl rfl rfl rfl rfl rfl rfl rfl rfl rfl ?_ ?_ (AppB.of ?_ rfl) ?_;(focus (first | rfl |(simp <;> fail)));(focus (first | exact Elems.of rfl | exact Elems.map fun _=>rfl | exact PE.els _ (fun _=>rfl) _));(focus (first | omega |(simp;omega))))) |(refine kLoad ?_;first |(refine LOps.ans (AnsL.loadP tT_ok rfl rfl rfl rfl) ?_)) |(refine kLen ?_;first |(refine LOps.ans (AnsL.lenM tT_ok rfl rfl rfl) ?_)) |(refine kIdx ?_;first |(refine LOps.ans (AnsL.idx (j:=0) tT_ok rfl rfl rfl rfl rfl hg rfl rfl) ?_)) |(refine kCallN 70 ?_;first |(refine LOps.ans (AnsL.callP rfl rfl rfl (ok70) (specl17If_t _ _ _)) ?_)) |(refine kCallN 71 ?_;first |(refine LOps.ans (AnsL.callP rfl rfl rfl (ok71) (hM _ _)) ?_))) |(refine kWL ?_;first |(refine WL.seq ?_) |(refine WL.region (by kernel_rfl) ?_) |(refine WL.drawn (id:=23) [0,1,2,3,4,5,6,7,8,9,10,11] [] [[],[],[],[2],[2,3],[2,3,4],[0,1,2,3,4,5],[0,1,2,3,4,5,6],[0,1,2,3,4,5,6,7],[0,1,2,3,4,5,6,7],[0,1,2,3,4,5,6,7,8],[0,1,2,3,4,5,6,7,8,9,10]] (by kernel_rfl) (by kernel_rfl) ?_) |(refine WL.block ?_) |(refine WL.exit ?_) |(refine WL.skip ?_) |(refine WL.ret ?_) |(refine kCond ?_;first |(refine WL.condF rfl ?_) |(refine WL.condT' rfl ?_ ?_;(focus (first |(exact decide_eq_true (by assumption)) |(simp <;> omega)))) |(refine WL.condF' rfl ?_ ?_;(focus (first |(simp <;> omega)))))) |(refine kDr ?_;first |(refine LDr.nil ?_) |(refine LDr.fl rfl rfl (.ev tT_ok rfl) ?_) |(refine kDLoad rfl ?_;first |(refine LDr.fl rfl rfl (AnsL.loadP tT_ok rfl rfl rfl rfl) ?_)) |(refine kDIdx rfl ?_;first |(refine LDr.fl rfl rfl (AnsL.idx (j:=0) tT_ok rfl rfl rfl rfl rfl hgs rfl rfl) ?_)) |(refine kDCallN 69 rfl ?_;first |(refine LDr.fl rfl rfl (AnsL.callP rfl rfl rfl (ok69) (hPl _)) ?_))) |(refine lthen_n ?_) |(refine lthen_e ?_) |(refine lblock_n ?_) |(refine lblock_e ?_) |(refine lbackD_e ?_) |(refine LPost.r2 (r := .tmp 6) (r' := .tmp 7) (.inl rfl) (Res1.tmp rfl) (Res1.tmp rfl) ?_) |(refine PureR.mk ?_)
           simp [tyV,V.forget,V.forgetL]
       · rw [show resT env e.kind e.op e.value e.up e.pos ts [l]=none by simp [resT,hk,hl1]]
         have hl2:¬ (l.length:Int)=1:=by omega
         repeat' first |(refine kOps ?_;first |(refine LOps.nil ?_) |(refine kG ?_;first |(refine LOps.gT rfl rfl rfl ?_) |(refine LOps.gD true rfl rfl rfl ?_ ?_;(focus (first |(exact decide_eq_true (by assumption)))))) |(refine LOps.ev tT_ok rfl ?_) |(refine kLoad ?_;first |(refine LOps.ans (AnsL.loadP tT_ok rfl rfl rfl rfl) ?_)) |(refine kLen ?_;first |(refine LOps.ans (AnsL.lenM tT_ok rfl rfl rfl) ?_))) |(refine kWL ?_;first |(refine WL.seq ?_) |(refine WL.region (by kernel_rfl) ?_) |(refine WL.drawn (id:=23) [0,1,2,3,4,5,6,7,8,9,10,11] [] [[],[],[],[2],[2,3],[2,3,4],[0,1,2,3,4,5],[0,1,2,3,4,5,6],[0,1,2,3,4,5,6,7],[0,1,2,3,4,5,6,7],[0,1,2,3,4,5,6,7,8],[0,1,2,3,4,5,6,7,8,9,10]] (by kernel_rfl) (by kernel_rfl) ?_) |(refine WL.block ?_) |(refine WL.exit ?_) |(refine WL.skip ?_) |(refine WL.ret ?_) |(refine kCond ?_;first |(refine WL.condT' rfl ?_ ?_;(focus (first |(simp <;> omega)))) |(refine WL.condF' rfl ?_ ?_;(focus (first |(simp <;> omega)))))) |(refine kDr ?_;first |(refine LDr.nil ?_) |(refine LDr.fl rfl rfl (.ev tT_ok rfl) ?_) |(refine kDLoad rfl ?_;first |(refine LDr.fl rfl rfl (AnsL.loadP tT_ok rfl rfl rfl rfl) ?_)) |(refine kDIdx rfl ?_;first |(refine LDr.fl rfl rfl (AnsL.idx (j:=0) tT_ok rfl rfl rfl rfl rfl hgs rfl rfl) ?_)) |(refine kDCallN 69 rfl ?_;first |(refine LDr.fl rfl rfl (AnsL.callP rfl rfl rfl (ok69) (hPl _)) ?_))) |(refine lthen_n ?_) |(refine lthen_r ?_) |(refine lthen_e ?_) |(refine lblock_n ?_) |(refine lblock_e ?_) |(refine lbackD_e ?_) |(refine LPost.r2 (r := .tmp 6) (r' := .tmp 7) (.inl rfl) (Res1.tmp rfl) (Res1.tmp rfl) ?_) |(refine PureR.mk ?_)
         rfl
   · have hPl:=hP0 p (by rw [h2];simp)
     have hs1:e.sub.length=1:=by rw [h2];rfl
     have hgs:(e.sub.map PE.planV)[0]?=some (PL.v p):=by rw [h2];simp [PE.planV_eq]
     rw [h1] at htl
     have hts:ts=[]:=List.eq_nil_of_length_eq_zero htl
     have hM2:∀ id t,VCalls Try.prog 71 [.sl id (ts.map iV)] t (fun v t'=>v = .bool true∧t'=t):=fun id t=>by
       have:=hM id t
       rw [show (meetL 0 ts).isSome=true by rw [hts];rfl] at this
       exact this
     rw [h2,tyS_one]
     cases hty:PE.tyP c env p with
     | none =>
       rw [hty] at hPl
       repeat' first |(refine kOps ?_;first |(refine LOps.nil ?_) |(refine kG ?_;first |(refine LOps.gF rfl rfl rfl ?_) |(refine LOps.gU rfl rfl ?_)) |(refine LOps.ev tT_ok rfl ?_) |(refine kLoad ?_;first |(refine LOps.ans (AnsL.loadP tT_ok rfl rfl rfl rfl) ?_)) |(refine kLen ?_;first |(refine LOps.ans (AnsL.lenM tT_ok rfl rfl rfl) ?_))) |(refine kWL ?_;first |(refine WL.seq ?_) |(refine WL.region (by kernel_rfl) ?_) |(refine WL.drawn (id:=23) [0,1,2,3,4,5,6,7,8,9,10,11] [] [[],[],[],[2],[2,3],[2,3,4],[0,1,2,3,4,5],[0,1,2,3,4,5,6],[0,1,2,3,4,5,6,7],[0,1,2,3,4,5,6,7],[0,1,2,3,4,5,6,7,8],[0,1,2,3,4,5,6,7,8,9,10]] (by kernel_rfl) (by kernel_rfl) ?_) |(refine WL.block ?_) |(refine WL.exit ?_) |(refine WL.skip ?_) |(refine WL.ret ?_) |(refine kCond ?_;first |(refine WL.condT rfl ?_) |(refine WL.condT' rfl ?_ ?_;(focus (first |(simp <;> omega)))) |(refine WL.condF' rfl ?_ ?_;(focus (first |(simp <;> omega)))))) |(refine kDr ?_;first |(refine LDr.nil ?_) |(refine LDr.fl rfl rfl (.ev tT_ok rfl) ?_) |(refine kDLoad rfl ?_;first |(refine LDr.fl rfl rfl (AnsL.loadP tT_ok rfl rfl rfl rfl) ?_)) |(refine kDIdx rfl ?_;first |(refine LDr.fl rfl rfl (AnsL.idx (j:=0) tT_ok rfl rfl rfl rfl rfl hgs rfl rfl) ?_)) |(refine kDCallN 69 rfl ?_;first |(refine LDr.fl rfl rfl (AnsL.callP rfl rfl rfl (ok69) (hPl _)) ?_))) |(refine lthen_n ?_) |(refine lthen_r ?_) |(refine lthen_e ?_) |(refine lblock_n ?_) |(refine lblock_e ?_) |(refine lbackD_e ?_) |(refine LPost.r2 (r := .tmp 6) (r' := .tmp 7) (.inl rfl) (Res1.tmp rfl) (Res1.tmp rfl) ?_) |(refine PureR.mk ?_)
       rfl
     | some l =>
       rw [hty] at hPl
       simp only [Option.map_some]
       try dsimp only
       rw [show resT env e.kind e.op e.value e.up e.pos ts [l]=some 3 by simp [resT,hk]]
       repeat' first |(refine kOps ?_;first |(refine LOps.nil ?_) |(refine kG ?_;first |(refine LOps.gT rfl rfl rfl ?_) |(refine LOps.gF rfl rfl rfl ?_) |(refine LOps.gD false rfl rfl rfl ?_ ?_;(focus (first |(simp <;> omega))))) |(refine LOps.ev tT_ok rfl ?_) |(refine kLoad ?_;first |(refine LOps.ans (AnsL.loadP tT_ok rfl rfl rfl rfl) ?_)) |(refine kLen ?_;first |(refine LOps.ans (AnsL.lenM tT_ok rfl rfl rfl) ?_)) |(refine kCallN 70 ?_;first |(refine LOps.ans (AnsL.callP rfl rfl rfl (ok70) (specl17If_t _ _ _)) ?_)) |(refine kCallN 71 ?_;first |(refine LOps.ans (AnsL.callP rfl rfl rfl (ok71) (hM2 _ _)) ?_))) |(refine kWL ?_;first |(refine WL.seq ?_) |(refine WL.region (by kernel_rfl) ?_) |(refine WL.drawn (id:=23) [0,1,2,3,4,5,6,7,8,9,10,11] [] [[],[],[],[2],[2,3],[2,3,4],[0,1,2,3,4,5],[0,1,2,3,4,5,6],[0,1,2,3,4,5,6,7],[0,1,2,3,4,5,6,7],[0,1,2,3,4,5,6,7,8],[0,1,2,3,4,5,6,7,8,9,10]] (by kernel_rfl) (by kernel_rfl) ?_) |(refine WL.block ?_) |(refine WL.exit ?_) |(refine WL.skip ?_) |(refine WL.ret ?_) |(refine kCond ?_;first |(refine WL.condF rfl ?_) |(refine WL.condT' rfl ?_ ?_;(focus (first |(simp <;> omega)))) |(refine WL.condF' rfl ?_ ?_;(focus (first |(simp <;> omega)))))) |(refine kDr ?_;first |(refine LDr.nil ?_) |(refine LDr.fl rfl rfl (.ev tT_ok rfl) ?_) |(refine kDLoad rfl ?_;first |(refine LDr.fl rfl rfl (AnsL.loadP tT_ok rfl rfl rfl rfl) ?_)) |(refine kDIdx rfl ?_;first |(refine LDr.fl rfl rfl (AnsL.idx (j:=0) tT_ok rfl rfl rfl rfl rfl hgs rfl rfl) ?_)) |(refine kDCallN 69 rfl ?_;first |(refine LDr.fl rfl rfl (AnsL.callP rfl rfl rfl (ok69) (hPl _)) ?_))) |(refine lthen_n ?_) |(refine lthen_e ?_) |(refine lblock_n ?_) |(refine lblock_e ?_) |(refine lbackD_e ?_) |(refine LPost.r2 (r := .tmp 6) (r' := .tmp 7) (.inl rfl) (Res1.tmp rfl) (Res1.tmp rfl) ?_) |(refine PureR.mk ?_)
       simp [optV,tyV,V.forget,V.forgetL]
end Go.Proofs.Ytolhegocbkckdaa
