/-
 RowTypes as plain results. Printed by a program of our own; no condition.
-/
import Derived.Test.YtolhegocbkckdaaMg15
namespace Go.Proofs.Ytolhegocbkckdaa
open Go
set_option linter.unusedSimpArgs false
set_option linter.unusedVariables false
@[simp] theorem rowV_dat (r:List Int × Bool):(rowV r).dat=true:=by simp [rowV]
theorem specRowTypes_v (c:Cat) (ts:List Int) (h:c.wt≤1048576) (ht:ts.length≤1048576) (s:S):VCalls Try.prog 118 [c.toV,ints ts] s (fun v t=>v=rowV (rowTy c ts)∧t=s):=by
 have hl:=len_slW Tab.wt c.tables
 have hcw:=h
 simp only [Cat.wt] at hcw
 refine LCalls.pure Try.func118 rfl (by kernel_rfl) (by simp) ?_
 repeat' first |(refine kOps ?_;first |(refine LOps.nil ?_) |(refine LOps.ev tT_ok rfl ?_) |(refine kBox ?_;refine LOps.box rfl rfl rfl rfl ?_) |(refine kBsl ?_;first |(refine LOps.bsl0 tT_ok rfl rfl rfl rfl rfl ?_))) |(refine kWL ?_;first |(refine WL.seq ?_) |(refine WL.region (by kernel_rfl) ?_) |(refine WL.block ?_)) |(refine lthen_n ?_)
 refine WL.zfam (t:=6) 1 rfl rfl rfl rfl ?_
 refine WL.loopD (fun i:Nat=>ts.length - i) (fun i=>[(1,ints ts),(2,.ptr (s.next+0) 0),(6,.sl (s.next+1) ((rowsOf c (ts.take i)).map iV)),(7,.int .i64 (i:Int))]) (fun i=>[.var [.sl 0 (c.tables.map Tab.toV)],.fam (rowsOf c (ts.take i)).length 1])
   (fun i=>i≤ts.length∧(ts.take i).all (rowIn c)=true) 2 0 (by simp) (fun _=>rfl) ⟨rfl,rfl,rfl,rfl,trivial⟩ rfl (fun i hi=>?_) (fun i hi=>?_)
 · simp [UnderK,UnderX,Own.under,V.under,V.underL,ints]
 obtain ⟨hi,ha⟩:=hi
 have hlen:=rowsOf_len c h (ts.take i)
 rw [List.length_take,Nat.min_eq_left hi] at hlen
 rcases Nat.lt_or_ge i ts.length with hlt | hge
 · cases hr:rowIn c ts[i]
   · rw [rowTy_no hlt hr]
     have hga:(ts.map iV)[i]?=some (iV ts[i]):=by simp [hlt]
     generalize ts[i]=k at hga hr
     have hI:∀ t,VCalls Try.prog 36 [.int .i64 k,.int .i64 0,.int .i64 ((c.tables.length:Int) - 1)] t (fun v t'=>v = .bool false∧t'=t):=fun t=>by rw [← hr];exact specl1In_v _ _ _ t
     repeat' first |(refine kOps ?_;first |(refine LOps.nil ?_) |(refine LOps.ev tT_ok rfl ?_) |(refine kBsl ?_;first |(refine LOps.bsl0 tT_ok rfl rfl rfl rfl rfl ?_)) |(refine kLen ?_;first |(refine LOps.ans (AnsL.lenM tT_ok rfl rfl rfl) ?_))) |(refine kWL ?_;first |(refine WL.seq ?_) |(refine WL.region (by kernel_rfl) ?_) |(refine WL.drawn (id:=5) [0,1,2,3,4,5,6,7,8,9] [] [[],[],[0,1],[0,1,2],[],[4],[4,5],[4,5,6],[0,1,2,3,4,5,6,7],[0,1,2,3,4,5,6,7,8]] (by kernel_rfl) (by kernel_rfl) ?_) |(refine WL.block ?_) |(refine WL.skip ?_) |(refine WL.ret ?_) |(refine kCond ?_;first |(refine WL.condT rfl ?_) |(refine WL.condT' rfl ?_ ?_;(focus (first |(simp <;> omega)))))) |(refine kDr ?_;first |(refine LDr.nil ?_) |(refine LDr.fl rfl rfl (.ev tT_ok rfl) ?_) |(refine kDLoad rfl ?_;first |(refine LDr.fl rfl rfl (AnsL.loadP tT_ok rfl rfl rfl rfl) ?_)) |(refine kDLen rfl ?_;first |(refine LDr.fl rfl rfl (AnsL.lenM tT_ok rfl rfl rfl) ?_)) |(refine kDBin rfl ?_;first |(refine LDr.fl rfl rfl (AnsL.sub rfl rfl ?_) ?_;(focus (constructor <;> omega)))) |(refine kDIdx rfl ?_;first |(refine LDr.fl rfl rfl (AnsL.idx tT_ok rfl rfl rfl rfl rfl hga rfl rfl) ?_)) |(refine kDCallN 36 rfl ?_;first |(refine LDr.fl rfl rfl (AnsL.callP rfl rfl rfl (ok36) (hI _)) ?_))) |(refine lthen_n ?_) |(refine lthen_r ?_) |(refine lblock_r ?_) |(refine lbackD_r ?_) |(refine LPost.r2 (r := .tmp 4) (r' := .tmp 5) (.inl rfl) (Res1.tmp rfl) (Res1.tmp rfl) ?_) |(refine PureR.mk ?_)
     simp [rowV,ints,V.forget,V.forgetL]
   · have hall:=all_take (p:=rowIn c) hlt
     rw [ha,hr] at hall
     obtain ⟨n,hn,hnt⟩:=rowIn_nat hr
     have htk:=rowsOf_take hlt hn hnt
     have hga:(ts.map iV)[i]?=some (iV (n:Int)):=by simp [hlt,hn]
     have hw:=mem_slW (f:=Tab.wt) hnt
     have hT:∀ t,VCalls Try.prog 143 [c.tables[n].toV] t (fun v t'=>v=ints c.tables[n].types∧t'=t):=fun t =>
       VCalls.pureOf (plainL_cons (plain_Tab _) rfl) (plain_IntS _) (fun t=>specTypesOf_o c.tables[n] (by omega) t) t
     have hgb:(c.tables.map Tab.toV)[n]?=some c.tables[n].toV:=by simp [hnt]
     have htl:c.tables[n].types.length≤1048576:=by
       have h3:=len_slW Col.wt c.tables[n].cols
       simp only [Tab.wt] at hw
       simp only [Tab.types,List.length_map]
       omega
     have hrn:inR (n:Int) 0 ((c.tables.length:Int) - 1)=true:=by rw [← hn];exact hr
     generalize c.tables[n]=tb at hgb htk hT htl
     have hI:∀ t,VCalls Try.prog 36 [.int .i64 (n:Int),.int .i64 0,.int .i64 ((c.tables.length:Int) - 1)] t (fun v t'=>v = .bool true∧t'=t):=fun t=>by rw [← hrn];exact specl1In_v _ _ _ t
     repeat' first |(refine kOps ?_;first |(refine LOps.nil ?_) |(refine LOps.ev tT_ok rfl ?_) |(refine kApp ?_;first |(refine LOps.app tT_ok rfl rfl rfl rfl rfl rfl rfl rfl rfl rfl rfl ?_ ?_ (AppB.of ?_ rfl) ?_;(focus (first | rfl |(simp <;> fail)));(focus (first | exact Elems.of rfl | exact Elems.map fun _=>rfl | exact PE.els _ (fun _=>rfl) _));(focus (first | omega |(simp;omega))))) |(refine kLen ?_;first |(refine LOps.ans (AnsL.lenM tT_ok rfl rfl rfl) ?_)) |(refine kBin ?_;first |(refine LOps.ans (AnsL.add rfl rfl ?_) ?_;(focus (constructor <;> omega))))) |(refine kWL ?_;first |(refine WL.seq ?_) |(refine WL.region (by kernel_rfl) ?_) |(refine WL.drawn (id:=5) [0,1,2,3,4,5,6,7,8,9] [] [[],[],[0,1],[0,1,2],[],[4],[4,5],[4,5,6],[0,1,2,3,4,5,6,7],[0,1,2,3,4,5,6,7,8]] (by kernel_rfl) (by kernel_rfl) ?_) |(refine WL.drawn (id:=7) [0,1,2,3,4,5,6,7,8,9,10,11] [10,11] [[],[],[1],[],[],[3,4],[3,4,5],[1,2,3,4,5,6],[1,2,3,4,5,6,7],[1,2,3,4,5,6,7,8],[0,1,2,3,4,5,6,7,8,9],[0,1,2,3,4,5,6,7,8,9,10]] (by kernel_rfl) (by kernel_rfl) ?_) |(refine WL.block ?_) |(refine WL.skip ?_) |(refine kCond ?_;first |(refine WL.condF rfl ?_) |(refine WL.condT' rfl ?_ ?_;(focus (first |(simp <;> omega)))))) |(refine kDr ?_;first |(refine LDr.nil ?_) |(refine LDr.fl rfl rfl (.ev tT_ok rfl) ?_) |(refine kDLoad rfl ?_;first |(refine LDr.fl rfl rfl (AnsL.loadP tT_ok rfl rfl rfl rfl) ?_)) |(refine kDLen rfl ?_;first |(refine LDr.fl rfl rfl (AnsL.lenM tT_ok rfl rfl rfl) ?_)) |(refine kDBin rfl ?_;first |(refine LDr.fl rfl rfl (AnsL.sub rfl rfl ?_) ?_;(focus (constructor <;> omega)))) |(refine kDIdx rfl ?_;first |(refine LDr.fl rfl rfl (AnsL.idx tT_ok rfl rfl rfl rfl rfl hga rfl rfl) ?_) |(refine LDr.fl rfl rfl (AnsL.idx tT_ok rfl rfl rfl rfl rfl hgb rfl rfl) ?_)) |(refine kDCallN 143 rfl ?_;first |(refine LDr.fl rfl rfl (AnsL.callP rfl rfl rfl (ok143) (hT _)) ?_)) |(refine kDCallN 36 rfl ?_;first |(refine LDr.fl rfl rfl (AnsL.callP rfl rfl rfl (ok36) (hI _)) ?_)) |(refine LDr.eff rfl rfl rfl ?_)) |(refine lthen_n ?_) |(refine lblock_n ?_) |(refine And.intro ?_ ?_) |(exact StsL.nil)
     refine lbackD.of (i+1) ⟨by omega,hall⟩ (by omega) ?_ ?_
     · rw [htk,List.map_append]
       exact ⟨rfl,rfl,rfl,rfl,trivial⟩
     · rw [htk]
       simp
 · rw [List.take_of_length_le hge] at ha ⊢
   repeat' first |(refine kOps ?_;first |(refine LOps.nil ?_) |(refine LOps.ev tT_ok rfl ?_) |(refine kLen ?_;first |(refine LOps.ans (AnsL.lenM tT_ok rfl rfl rfl) ?_))) |(refine kWL ?_;first |(refine WL.seq ?_) |(refine WL.region (by kernel_rfl) ?_) |(refine WL.exit ?_) |(refine WL.ret ?_) |(refine kCond ?_;first |(refine WL.condF' rfl ?_ ?_;(focus (first |(simp <;> omega)))))) |(refine lthen_n ?_) |(refine lthen_e ?_) |(refine lblock_e ?_) |(refine lbackD_e ?_) |(refine LPost.r2 (r := .tmp 4) (r' := .tmp 5) (.inl rfl) (Res1.tmp rfl) (Res1.tmp rfl) ?_) |(refine PureR.mk ?_)
   have e:rowTy c ts=(rowsOf c ts,true):=by simp only [rowTy,ha,if_true]
   rw [e]
   simp [rowV,ints,V.forget,V.forgetL]
theorem implRowTypes_v (c:Cat) (ts:List Int) (h:c.wt≤1048576) (ht:ts.length≤1048576) (s:S):VCalls Try.prog 104 [c.toV,ints ts] s (fun v t=>v=rowV (rowTy c ts)∧t=s):=by
 have hl:=len_slW Tab.wt c.tables
 have hcw:=h
 simp only [Cat.wt] at hcw
 refine LCalls.pure Try.func104 rfl (by kernel_rfl) (by simp) ?_
 repeat' first |(refine kOps ?_;first |(refine LOps.nil ?_) |(refine LOps.ev tT_ok rfl ?_) |(refine kBox ?_;refine LOps.box rfl rfl rfl rfl ?_) |(refine kBsl ?_;first |(refine LOps.bsl0 tT_ok rfl rfl rfl rfl rfl ?_)) |(refine kLen ?_;first |(refine LOps.ans (AnsL.lenM tT_ok rfl rfl rfl) ?_))) |(refine kWL ?_;first |(refine WL.seq ?_) |(refine WL.region (by kernel_rfl) ?_) |(refine WL.block ?_)) |(refine lthen_n ?_)
 refine WL.zfam (t:=6) 1 rfl rfl rfl rfl ?_
 refine WL.loopD (fun i:Nat=>ts.length - i) (fun i=>[(2,.ptr (s.next+0) 0),(6,.sl (s.next+1) ((rowsOf c (ts.take i)).map iV)),(10,ints ts),(11,.int .i64 ts.length),(12,.int .i64 (i:Int))]) (fun i=>[.var [.sl 0 (c.tables.map Tab.toV)],.fam (rowsOf c (ts.take i)).length 1])
   (fun i=>i≤ts.length∧(ts.take i).all (rowIn c)=true) 2 0 (by simp) (fun _=>rfl) ⟨rfl,rfl,rfl,rfl,rfl,trivial⟩ rfl (fun i hi=>?_) (fun i hi=>?_)
 · simp [UnderK,UnderX,Own.under,V.under,V.underL,ints]
 obtain ⟨hi,ha⟩:=hi
 have hlen:=rowsOf_len c h (ts.take i)
 rw [List.length_take,Nat.min_eq_left hi] at hlen
 rcases Nat.lt_or_ge i ts.length with hlt | hge
 · cases hr:rowIn c ts[i]
   · rw [rowTy_no hlt hr]
     have hga:(ts.map iV)[i]?=some (iV ts[i]):=by simp [hlt]
     generalize ts[i]=k at hga hr
     simp only [rowIn,inR,Bool.and_eq_false_iff,decide_eq_false_iff_not] at hr
     by_cases hk:k<0
     · skip
       repeat' first |(refine kOps ?_;first |(refine LOps.nil ?_) |(refine kG ?_;first |(refine LOps.gF rfl rfl rfl ?_) |(refine LOps.gD true rfl rfl rfl ?_ ?_;(focus (first |(exact decide_eq_true (by assumption)))))) |(refine LOps.ev tT_ok rfl ?_) |(refine kIdx ?_;first |(refine LOps.ans (AnsL.idx tT_ok rfl rfl rfl rfl rfl hga rfl rfl) ?_))) |(refine kWL ?_;first |(refine WL.seq ?_) |(refine WL.region (by kernel_rfl) ?_) |(refine WL.block ?_) |(refine WL.skip ?_) |(refine WL.ret ?_) |(refine kCond ?_;first |(refine WL.condT rfl ?_) |(refine WL.condT' rfl ?_ ?_;(focus (first |(simp <;> omega)))))) |(refine lthen_n ?_) |(refine lthen_r ?_) |(refine lblock_r ?_) |(refine lbackD_r ?_) |(refine LPost.r2 (r := .tmp 4) (r' := .tmp 5) (.inl rfl) (Res1.tmp rfl) (Res1.tmp rfl) ?_) |(refine PureR.mk ?_)
       simp [rowV,ints,V.forget,V.forgetL]
     · have hk2:(c.tables.length:Int)≤k:=by omega
       repeat' first |(refine kOps ?_;first |(refine LOps.nil ?_) |(refine kG ?_;first |(refine LOps.gT rfl rfl rfl ?_) |(refine LOps.gD false rfl rfl rfl ?_ ?_;(focus (first |(exact decide_eq_false (by assumption)))))) |(refine LOps.ev tT_ok rfl ?_) |(refine kLoad ?_;first |(refine LOps.ans (AnsL.loadP tT_ok rfl rfl rfl rfl) ?_)) |(refine kLen ?_;first |(refine LOps.ans (AnsL.lenM tT_ok rfl rfl rfl) ?_)) |(refine kIdx ?_;first |(refine LOps.ans (AnsL.idx tT_ok rfl rfl rfl rfl rfl hga rfl rfl) ?_))) |(refine kWL ?_;first |(refine WL.seq ?_) |(refine WL.region (by kernel_rfl) ?_) |(refine WL.block ?_) |(refine WL.skip ?_) |(refine WL.ret ?_) |(refine kCond ?_;first |(refine WL.condT' rfl ?_ ?_;(focus (first |(exact decide_eq_true (by assumption)) |(simp <;> omega)))))) |(refine lthen_n ?_) |(refine lthen_r ?_) |(refine lblock_r ?_) |(refine lbackD_r ?_) |(refine LPost.r2 (r := .tmp 4) (r' := .tmp 5) (.inl rfl) (Res1.tmp rfl) (Res1.tmp rfl) ?_) |(refine PureR.mk ?_)
       simp [rowV,ints,V.forget,V.forgetL]
   · have hall:=all_take (p:=rowIn c) hlt
     rw [ha,hr] at hall
     obtain ⟨n,hn,hnt⟩:=rowIn_nat hr
     have htk:=rowsOf_take hlt hn hnt
     have hga:(ts.map iV)[i]?=some (iV (n:Int)):=by simp [hlt,hn]
     have hw:=mem_slW (f:=Tab.wt) hnt
     have hT:∀ t,VCalls Try.prog 131 [c.tables[n].toV] t (fun v t'=>v=ints c.tables[n].types∧t'=t):=fun t =>
       VCalls.pureOf (plainL_cons (plain_Tab _) rfl) (plain_IntS _) (fun t=>implTypesOf_o c.tables[n] (by omega) t) t
     have hgb:(c.tables.map Tab.toV)[n]?=some c.tables[n].toV:=by simp [hnt]
     have htl:c.tables[n].types.length≤1048576:=by
       have h3:=len_slW Col.wt c.tables[n].cols
       simp only [Tab.wt] at hw
       simp only [Tab.types,List.length_map]
       omega
     have hrn:inR (n:Int) 0 ((c.tables.length:Int) - 1)=true:=by rw [← hn];exact hr
     generalize c.tables[n]=tb at hgb htk hT htl
     have hk:¬ (n:Int)<0:=by omega
     have hk2:¬ (c.tables.length:Int)≤n:=by omega
     repeat' first |(refine kOps ?_;first |(refine LOps.nil ?_) |(refine kG ?_;first |(refine LOps.gT rfl rfl rfl ?_)) |(refine LOps.ev tT_ok rfl ?_) |(refine kApp ?_;first |(refine LOps.app tT_ok rfl rfl rfl rfl rfl rfl rfl rfl rfl rfl rfl ?_ ?_ (AppB.of ?_ rfl) ?_;(focus (first | rfl |(simp <;> fail)));(focus (first | exact Elems.of rfl | exact Elems.map fun _=>rfl | exact PE.els _ (fun _=>rfl) _));(focus (first | omega |(simp;omega))))) |(refine kLoad ?_;first |(refine LOps.ans (AnsL.loadP tT_ok rfl rfl rfl rfl) ?_)) |(refine kLen ?_;first |(refine LOps.ans (AnsL.lenM tT_ok rfl rfl rfl) ?_)) |(refine kBin ?_;first |(refine LOps.ans (AnsL.add rfl rfl ?_) ?_;(focus (constructor <;> omega)))) |(refine kIdx ?_;first |(refine LOps.ans (AnsL.idx tT_ok rfl rfl rfl rfl rfl hga rfl rfl) ?_) |(refine LOps.ans (AnsL.idx tT_ok rfl rfl rfl rfl rfl hgb rfl rfl) ?_)) |(refine kCallN 131 ?_;first |(refine LOps.ans (AnsL.callP rfl rfl rfl (ok131) (hT _)) ?_))) |(refine kWL ?_;first |(refine WL.seq ?_) |(refine WL.region (by kernel_rfl) ?_) |(refine WL.block ?_) |(refine WL.skip ?_) |(refine kCond ?_;first |(refine WL.condT' rfl ?_ ?_;(focus (first |(simp <;> omega)))) |(refine WL.condF' rfl ?_ ?_;(focus (first |(exact decide_eq_false (by assumption))))))) |(refine lthen_n ?_) |(refine lblock_n ?_)
     refine lbackD.of (i+1) ⟨by omega,hall⟩ (by omega) ?_ ?_
     · rw [htk,List.map_append]
       exact ⟨rfl,rfl,rfl,rfl,rfl,trivial⟩
     · rw [htk]
       simp
 · rw [List.take_of_length_le hge] at ha ⊢
   repeat' first |(refine kOps ?_;first |(refine LOps.nil ?_) |(refine LOps.ev tT_ok rfl ?_)) |(refine kWL ?_;first |(refine WL.seq ?_) |(refine WL.region (by kernel_rfl) ?_) |(refine WL.exit ?_) |(refine WL.ret ?_) |(refine kCond ?_;first |(refine WL.condF' rfl ?_ ?_;(focus (first |(simp <;> omega)))))) |(refine lthen_n ?_) |(refine lthen_e ?_) |(refine lblock_e ?_) |(refine lbackD_e ?_) |(refine LPost.r2 (r := .tmp 4) (r' := .tmp 5) (.inl rfl) (Res1.tmp rfl) (Res1.tmp rfl) ?_) |(refine PureR.mk ?_)
   have e:rowTy c ts=(rowsOf c ts,true):=by simp only [rowTy,ha,if_true]
   rw [e]
   simp [rowV,ints,V.forget,V.forgetL]
end Go.Proofs.Ytolhegocbkckdaa
