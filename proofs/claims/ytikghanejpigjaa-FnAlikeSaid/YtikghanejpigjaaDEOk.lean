/-
 The expressions of a query, of the reference. Own work; no condition.
-/
import Derived.Test.YtikghanejpigjaaMg20
import Derived.Test.YtikghanejpigjaaDESame
namespace Go.Proofs.Ytikghanejpigjaa
open Go
set_option linter.unusedSimpArgs false
set_option linter.unusedVariables false
def exI {α : Type} (l:List (ItemOf α)):List α := (l.filter (fun x => !x.star)).map (·.e)
def exF {α : Type} (l:List (SrcOf α)):List α := (l.map (·.on)).flatten
theorem exI_len {α : Type} (l:List (ItemOf α)):(exI l).length≤l.length:=by
 unfold exI
 rw [List.length_map]
 exact List.length_filter_le _ _
theorem exI_succ {α : Type} (l:List (ItemOf α)) {i:Nat} (h:i<l.length):exI (l.take (i+1))=exI (l.take i)++(if l[i].star then [] else [l[i].e]):=by
 unfold exI
 rw [List.take_succ_eq_append_getElem h,List.filter_append,List.map_append]
 congr 1
 cases hs:l[i].star <;> simp [hs]
theorem exF_succ {α : Type} (l:List (SrcOf α)) {i:Nat} (h:i<l.length):exF (l.take (i+1))=exF (l.take i)++l[i].on:=by
 unfold exF
 rw [List.take_succ_eq_append_getElem h,List.map_append,List.flatten_append]
 simp
theorem exF_wgt:∀ l:List ESrc,(exF l).length≤wgt (.sl 0 (l.map ESrc.v))
 | []=>Nat.le_refl _
 | x::l=>by
   have h1:=exF_wgt l
   have h2:=wgt_len EE.toV x.on
   have h3:=ESrc.wgt_eq x
   simp only [exF,List.map_cons,List.flatten_cons,List.length_append,wgt,wgtL,List.length_cons,List.length_map] at *
   omega
theorem exF_mono {α : Type} (l:List (SrcOf α)) (i:Nat):(exF (l.take i)).length≤(exF l).length:=by
 have:exF l=exF (l.take i)++exF (l.drop i):=by
   unfold exF
   rw [← List.flatten_append, ← List.map_append,List.take_append_drop]
 rw [this,List.length_append]
 omega
theorem exprs_eq {α : Type} (q:QueryOf α):q.exprs=exI q.items++exF q.src++q.wher++q.order.map (·.1):=rfl
theorem exprs_len (q:EQ):q.exprs.length≤wgt q.v:=by
 have h0:=EQ.wgt_eq q
 have h1:=exI_len q.items
 have h2:=exF_wgt q.src
 have h3:=wgt_len EItem.v q.items
 have h4:=wgt_len EE.toV q.wher
 have h5:=wgt_len EE.sv q.order
 rw [exprs_eq]
 simp only [List.length_append,List.length_map]
 omega
theorem exprs_parts {q:EQ} {k:EE} (hk:k∈q.exprs):k∈q.parts:=by
 simp only [QueryOf.exprs,QueryOf.parts,List.mem_append,List.mem_map,List.mem_filter] at hk ⊢
 rcases hk with ((⟨x,⟨h5,h6⟩,rfl⟩ | h5) | h5) | h5
 · exact .inl (.inl (.inl ⟨x,h5,rfl⟩))
 · exact .inl (.inl (.inr h5))
 · exact .inl (.inr h5)
 · exact .inr h5
theorem EE.els (te:Ty) (h:∀ x:EE,elemsA te [EE.v x]=true) (l:List EE):Elems te (l.map EE.toV):=Elems.map fun x=>by rw [EE.toV_eq];exact h x
theorem fgtE (l:List EE):(l.map EE.toV).map V.forget=l.map EE.toV:=by
 have:=plain_forget _ (plain_ExprS l)
 simp only [V.forget,V.forgetL_eq,V.sl.injEq,true_and] at this
 exact this
set_option maxHeartbeats 1000000 in
theorem specl7Exprs_v (q:EQ) (hw:wgt q.v≤1048576) (s:S):VCalls Try.prog 62 [q.v] s (fun v s'=>v = .sl 0 (q.exprs.map EE.toV)∧s'=s):=by
 have h0:=EQ.wgt_eq q
 have h1:=exI_len q.items
 have h2:=exF_wgt q.src
 have h3:=wgt_len EItem.v q.items
 have h4:=wgt_len EE.toV q.wher
 have h5:=wgt_len EE.sv q.order
 have h6:=wgt_len ESrc.v q.src
 refine LCalls.pure Try.func62 rfl (by kernel_rfl) (plain_dat _ (plain_ExprS _)) ?_
 repeat' first |(refine kOps ?_;first |(refine LOps.nil ?_) |(refine LOps.ev tT_ok rfl ?_) |(refine kBox ?_;refine LOps.box rfl rfl rfl rfl ?_) |(refine kBsl ?_;first |(refine LOps.bsl0 tT_ok rfl rfl rfl rfl rfl ?_))) |(refine kWL ?_;first |(refine WL.seq ?_) |(refine WL.region (by kernel_rfl) ?_) |(refine WL.block ?_)) |(refine lthen_n ?_)
 refine WL.zfam (t:=3) 10 rfl rfl rfl rfl ?_
 refine WL.loopD (fun i:Nat=>q.items.length - i) (fun i=>[(1,.ptr (s.next+0) 0),(3,.sl (s.next+1) ((exI (q.items.take i)).map EE.toV)),(4,.int .i64 (i:Int))]) (fun i=>[.var q.v.cells,.fam (exI (q.items.take i)).length 10])
   (fun i=>i≤q.items.length) 2 0 (by simp) (fun _=>rfl) ⟨rfl,rfl,rfl,trivial⟩ rfl (fun i hi=>?_) (fun i hi=>?_)
 · generalize exI (q.items.take i) = us
   simp [UnderK,UnderX,Own.under,V.under,V.underL,EQ.v,V.cells]
 have hal:=fun i=>exI_len (q.items.take i)
 have hti:∀ i,(q.items.take i).length≤q.items.length:=fun i=>by rw [List.length_take];omega
 rcases Nat.lt_or_ge i q.items.length with hlt | hge
 · have hga : (q.items.map EItem.v)[i]? = some (EItem.v q.items[i]) := by simp [hlt]
   have ht:=exI_succ q.items hlt
   have ha1:=hal i
   have ha2:=hti i
   generalize q.items[i]=x at hga ht
   generalize exI (q.items.take i)=us at ht ha1 ⊢
   obtain ⟨st,ql,e,als⟩:=x
   unfold EItem.v at hga
   dsimp only at hga ht
   cases st
   · skip
     repeat' first |(refine kOps ?_;first |(refine LOps.nil ?_) |(refine LOps.ev tT_ok rfl ?_) |(refine kBsl ?_;first |(refine LOps.bsl tT_ok rfl rfl rfl rfl rfl rfl rfl rfl rfl rfl rfl ?_)) |(refine kApp ?_;first |(refine LOps.app tT_ok rfl rfl rfl rfl rfl rfl rfl rfl rfl rfl rfl ?_ ?_ (AppB.ofW ?_ rfl) ?_;(focus (first | rfl |(simp <;> fail)));(focus (first | exact Elems.of rfl | exact Elems.map fun _=>rfl | exact PE.els _ (fun _=>rfl) _ | exact EE.els _ (fun _=>rfl) _));(focus (first | omega |(simp;omega))))) |(refine kLoad ?_;first |(refine LOps.ans (AnsL.loadP tT_ok rfl rfl rfl rfl) ?_)) |(refine kLen ?_;first |(refine LOps.ans (AnsL.lenM tT_ok rfl rfl rfl) ?_)) |(refine kBin ?_;first |(refine LOps.ans (AnsL.add rfl rfl ?_) ?_;(focus (constructor <;> omega)))) |(refine kIdx ?_;first |(refine LOps.ans (AnsL.idx tT_ok rfl rfl rfl rfl rfl hga rfl rfl) ?_))) |(refine kWL ?_;first |(refine WL.seq ?_) |(refine WL.region (by kernel_rfl) ?_) |(refine WL.block ?_) |(refine WL.skip ?_) |(refine kCond ?_;first |(refine WL.condT rfl ?_) |(refine WL.condT' rfl ?_ ?_;(focus (first |(simp <;> omega)))))) |(refine lthen_n ?_) |(refine lblock_n ?_)
     refine lbackD.of (i+1) ?_ ?_ ?_ ?_
     · omega
     · omega
     · rw [ht, if_neg (by decide), List.map_append, List.map_cons, List.map_nil, EE.toV_eq]
       repeat' first | exact SubL.nil |(refine SubL.mk rfl ?_ ?_) | rfl |(simp <;> fail) |(simp;omega)
     · rw [ht, if_neg (by decide), List.length_append]
       simp [EQ.v,V.cells]
   · skip
     repeat' first |(refine kOps ?_;first |(refine LOps.nil ?_) |(refine LOps.ev tT_ok rfl ?_) |(refine kLoad ?_;first |(refine LOps.ans (AnsL.loadP tT_ok rfl rfl rfl rfl) ?_)) |(refine kLen ?_;first |(refine LOps.ans (AnsL.lenM tT_ok rfl rfl rfl) ?_)) |(refine kBin ?_;first |(refine LOps.ans (AnsL.add rfl rfl ?_) ?_;(focus (constructor <;> omega)))) |(refine kIdx ?_;first |(refine LOps.ans (AnsL.idx tT_ok rfl rfl rfl rfl rfl hga rfl rfl) ?_))) |(refine kWL ?_;first |(refine WL.seq ?_) |(refine WL.region (by kernel_rfl) ?_) |(refine WL.block ?_) |(refine WL.skip ?_) |(refine kCond ?_;first |(refine WL.condF rfl ?_) |(refine WL.condT' rfl ?_ ?_;(focus (first |(simp <;> omega)))))) |(refine lthen_n ?_) |(refine lblock_n ?_)
     refine lbackD.of (i+1) ?_ ?_ ?_ ?_
     · omega
     · omega
     · rw [ht, if_pos rfl, List.append_nil]
       repeat' first | exact SubL.nil |(refine SubL.mk rfl ?_ ?_) | rfl |(simp <;> fail) |(simp;omega)
     · rw [ht, if_pos rfl, List.append_nil]
       simp [EQ.v,V.cells]
 rw [List.take_of_length_le hge]
 generalize hA:exI q.items=A at h1 ⊢
 repeat' first |(refine kOps ?_;first |(refine LOps.nil ?_) |(refine LOps.ev tT_ok rfl ?_) |(refine kLoad ?_;first |(refine LOps.ans (AnsL.loadP tT_ok rfl rfl rfl rfl) ?_)) |(refine kLen ?_;first |(refine LOps.ans (AnsL.lenM tT_ok rfl rfl rfl) ?_))) |(refine kWL ?_;first |(refine WL.seq ?_) |(refine WL.region (by kernel_rfl) ?_) |(refine WL.block ?_) |(refine WL.exit ?_) |(refine kCond ?_;first |(refine WL.condF' rfl ?_ ?_;(focus (first |(simp <;> omega)))))) |(refine lthen_n ?_) |(refine lthen_e ?_) |(refine lblock_e ?_) |(refine lbackD_e ?_)
 refine WL.loopD (fun i:Nat=>q.src.length - i) (fun i=>[(1,.ptr (s.next+0) 0),(3,.sl (s.next+1) ((A++exF (q.src.take i)).map EE.toV)),(5,.int .i64 (i:Int))]) (fun i=>[.var q.v.cells,.fam (A++exF (q.src.take i)).length 10])
   (fun i=>i≤q.src.length) 2 0 (by simp) (fun _=>rfl) ?_ ?_ (fun i hi=>?_) (fun i hi=>?_)
 · simp only [exF, List.take_zero, List.map_nil, List.flatten_nil, List.append_nil]
   exact ⟨rfl,rfl,rfl,trivial⟩
 · simp [exF,EQ.v,V.cells]
 · generalize A ++ exF (q.src.take i) = us
   simp [UnderK,UnderX,Own.under,V.under,V.underL,EQ.v,V.cells]
 have hfl:=exF_mono q.src i
 have hfl2:=exF_mono q.src (i+1)
 rcases Nat.lt_or_ge i q.src.length with hlt | hge
 · have hga : (q.src.map ESrc.v)[i]? = some (ESrc.v q.src[i]) := by simp [hlt]
   have ht:=exF_succ q.src hlt
   rw [ht,List.length_append] at hfl2
   generalize q.src[i]=x at hga ht hfl2
   generalize exF (q.src.take i)=fs at ht hfl hfl2 ⊢
   obtain ⟨tb,als,on⟩:=x
   unfold ESrc.v at hga
   dsimp only at hga ht hfl2
   have hal:(A++fs).length=A.length+fs.length:=List.length_append
   have ht2:A++exF (q.src.take (i+1))=(A++fs)++on:=by rw [ht,List.append_assoc]
   generalize A++fs=us at hal ht2 ⊢
   repeat' first |(refine kOps ?_;first |(refine LOps.nil ?_) |(refine LOps.ev tT_ok rfl ?_) |(refine kApp ?_;first |(refine LOps.app tT_ok rfl rfl rfl rfl rfl rfl rfl rfl rfl rfl rfl ?_ ?_ (AppB.ofW ?_ rfl) ?_;(focus (first | rfl |(simp <;> fail)));(focus (first | exact Elems.of rfl | exact Elems.map fun _=>rfl | exact PE.els _ (fun _=>rfl) _ | exact EE.els _ (fun _=>rfl) _));(focus (first | omega |(simp;omega))))) |(refine kLoad ?_;first |(refine LOps.ans (AnsL.loadP tT_ok rfl rfl rfl rfl) ?_)) |(refine kLen ?_;first |(refine LOps.ans (AnsL.lenM tT_ok rfl rfl rfl) ?_)) |(refine kBin ?_;first |(refine LOps.ans (AnsL.add rfl rfl ?_) ?_;(focus (constructor <;> omega)))) |(refine kIdx ?_;first |(refine LOps.ans (AnsL.idx tT_ok rfl rfl rfl rfl rfl hga rfl rfl) ?_))) |(refine kWL ?_;first |(refine WL.seq ?_) |(refine WL.region (by kernel_rfl) ?_) |(refine WL.block ?_) |(refine WL.skip ?_) |(refine kCond ?_;first |(refine WL.condT' rfl ?_ ?_;(focus (first |(simp <;> omega)))))) |(refine lthen_n ?_) |(refine lblock_n ?_)
   refine lbackD.of (i+1) ?_ ?_ ?_ ?_
   · omega
   · omega
   · rw [ht2, List.map_append]
     repeat' first | exact SubL.nil |(refine SubL.mk rfl ?_ ?_) | rfl |(simp <;> fail) |(simp;omega)
   · rw [ht2, List.length_append]
     simp [EQ.v,V.cells]
 rw [List.take_of_length_le hge] at hfl ⊢
 generalize hB:exF q.src=F at h2 hfl ⊢
 have hab:(A++F).length=A.length+F.length:=List.length_append
 generalize hC:A++F=B at hab ⊢
 repeat' first |(refine kOps ?_;first |(refine LOps.nil ?_) |(refine LOps.ev tT_ok rfl ?_) |(refine kApp ?_;first |(refine LOps.app tT_ok rfl rfl rfl rfl rfl rfl rfl rfl rfl rfl rfl ?_ ?_ (AppB.ofW ?_ rfl) ?_;(focus (first | rfl |(simp <;> fail)));(focus (first | exact Elems.of rfl | exact Elems.map fun _=>rfl | exact PE.els _ (fun _=>rfl) _ | exact EE.els _ (fun _=>rfl) _));(focus (first | omega |(simp;omega))))) |(refine kLoad ?_;first |(refine LOps.ans (AnsL.loadP tT_ok rfl rfl rfl rfl) ?_)) |(refine kLen ?_;first |(refine LOps.ans (AnsL.lenM tT_ok rfl rfl rfl) ?_))) |(refine kWL ?_;first |(refine WL.seq ?_) |(refine WL.region (by kernel_rfl) ?_) |(refine WL.block ?_) |(refine WL.exit ?_) |(refine kCond ?_;first |(refine WL.condF' rfl ?_ ?_;(focus (first |(simp <;> omega)))))) |(refine lthen_n ?_) |(refine lthen_e ?_) |(refine lblock_e ?_) |(refine lbackD_e ?_)
 refine WL.loopD (fun i:Nat=>q.order.length - i) (fun i=>[(1,.ptr (s.next+0) 0),(3,.sl (s.next+1) ((B++q.wher++(q.order.take i).map (·.1)).map EE.toV)),(6,.int .i64 (i:Int))]) (fun i=>[.var q.v.cells,.fam (B++q.wher++(q.order.take i).map (·.1)).length 10])
   (fun i=>i≤q.order.length) 2 0 (by simp) (fun _=>rfl) ?_ ?_ (fun i hi=>?_) (fun i hi=>?_)
 · simp only [List.take_zero, List.map_nil, List.append_nil, List.map_append]
   exact ⟨rfl,rfl,rfl,trivial⟩
 · simp [EQ.v,V.cells]
 · generalize B ++ q.wher ++ (q.order.take i).map (·.1) = us
   simp [UnderK,UnderX,Own.under,V.under,V.underL,EQ.v,V.cells]
 have hol:(B++q.wher++(q.order.take i).map (·.1)).length=B.length+q.wher.length+i:=by simp;omega
 rcases Nat.lt_or_ge i q.order.length with hlt | hge2
 · have hga : (q.order.map EE.sv)[i]? = some (EE.sv q.order[i]) := by simp [hlt]
   have ht:B++q.wher++(q.order.take (i+1)).map (·.1)=(B++q.wher++(q.order.take i).map (·.1))++[q.order[i].1]:=by
     rw [List.take_succ_eq_append_getElem hlt,List.map_append, ← List.append_assoc]
     rfl
   generalize B++q.wher++(q.order.take i).map (·.1)=us at hol ht ⊢
   generalize q.order[i]=x at hga ht
   obtain ⟨e,d⟩:=x
   unfold EE.sv at hga
   dsimp only at hga ht
   repeat' first |(refine kOps ?_;first |(refine LOps.nil ?_) |(refine LOps.ev tT_ok rfl ?_) |(refine kBsl ?_;first |(refine LOps.bsl tT_ok rfl rfl rfl rfl rfl rfl rfl rfl rfl rfl rfl ?_)) |(refine kApp ?_;first |(refine LOps.app tT_ok rfl rfl rfl rfl rfl rfl rfl rfl rfl rfl rfl ?_ ?_ (AppB.ofW ?_ rfl) ?_;(focus (first | rfl |(simp <;> fail)));(focus (first | exact Elems.of rfl | exact Elems.map fun _=>rfl | exact PE.els _ (fun _=>rfl) _ | exact EE.els _ (fun _=>rfl) _));(focus (first | omega |(simp;omega))))) |(refine kLoad ?_;first |(refine LOps.ans (AnsL.loadP tT_ok rfl rfl rfl rfl) ?_)) |(refine kLen ?_;first |(refine LOps.ans (AnsL.lenM tT_ok rfl rfl rfl) ?_)) |(refine kBin ?_;first |(refine LOps.ans (AnsL.add rfl rfl ?_) ?_;(focus (constructor <;> omega)))) |(refine kIdx ?_;first |(refine LOps.ans (AnsL.idx tT_ok rfl rfl rfl rfl rfl hga rfl rfl) ?_))) |(refine kWL ?_;first |(refine WL.seq ?_) |(refine WL.region (by kernel_rfl) ?_) |(refine WL.block ?_) |(refine WL.skip ?_) |(refine kCond ?_;first |(refine WL.condT' rfl ?_ ?_;(focus (first |(simp <;> omega)))))) |(refine lthen_n ?_) |(refine lblock_n ?_)
   refine lbackD.of (i+1) ?_ ?_ ?_ ?_
   · omega
   · omega
   · rw [ht, List.map_append, List.map_cons, List.map_nil, EE.toV_eq]
     repeat' first | exact SubL.nil |(refine SubL.mk rfl ?_ ?_) | rfl |(simp <;> fail) |(simp;omega)
   · rw [ht, List.length_append]
     simp [EQ.v,V.cells]
 · rw [List.take_of_length_le hge2] at hol ⊢
   repeat' first |(refine kOps ?_;first |(refine LOps.nil ?_) |(refine LOps.ev tT_ok rfl ?_) |(refine kLoad ?_;first |(refine LOps.ans (AnsL.loadP tT_ok rfl rfl rfl rfl) ?_)) |(refine kLen ?_;first |(refine LOps.ans (AnsL.lenM tT_ok rfl rfl rfl) ?_))) |(refine kWL ?_;first |(refine WL.seq ?_) |(refine WL.region (by kernel_rfl) ?_) |(refine WL.exit ?_) |(refine WL.ret ?_) |(refine kCond ?_;first |(refine WL.condF' rfl ?_ ?_;(focus (first |(simp <;> omega)))))) |(refine lthen_n ?_) |(refine lthen_e ?_) |(refine lblock_e ?_) |(refine lbackD_e ?_) |(refine LPost.r1 (r := .tmp 2) (.inl rfl) (Res1.tmp rfl) ?_) |(refine PureR.mk ?_)
   rw [exprs_eq,hA,hB,hC]
   simp only [List.map_append,V.forget,V.forgetL_eq]
   simp only [fgtE]
end Go.Proofs.Ytikghanejpigjaa
