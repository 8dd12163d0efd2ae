/-
 How deep a query's tree is, and how many nodes are left, of the reference: some number, the same at every call. Own work; no condition.
-/
import Derived.Test.YtikghanejpigjaaDEOk
namespace Go.Proofs.Ytikghanejpigjaa
open Go
set_option linter.unusedSimpArgs false
set_option linter.unusedVariables false
def mxF {α : Type} (f : α → Nat) (l:List α):Nat:=l.foldl (fun m k=>max m (f k)) 0
theorem mxF_succ {α : Type} (f : α → Nat) (l:List α) {i:Nat} (h:i<l.length):mxF f (l.take (i+1))=max (mxF f (l.take i)) (f l[i]):=by
 unfold mxF
 rw [List.take_succ_eq_append_getElem h,List.foldl_append]
 rfl
theorem mxF_le {α : Type} (f : α → Nat) {n:Nat} (l:List α) (h:∀ x∈l,f x≤n):mxF f l≤n:=by
 have:∀ (l:List α) (m:Nat),m≤n→(∀ x∈l,f x≤n)→l.foldl (fun m k=>max m (f k)) m≤n:=by
   intro l
   induction l with
   | nil=>intro m hm _;exact hm
   | cons x l ih=>intro m hm hl;exact ih _ (Nat.max_le.2 ⟨hm,hl x (by simp)⟩) fun y hy=>hl y (by simp [hy])
 exact this l 0 (Nat.zero_le _) h
theorem wgt_mem2 {α : Type} {f : α → V} {l:List α} {x : α} (h:x∈l):wgt (f x)+1≤wgt (.sl 0 (l.map f)):=by
 induction l with
 | nil=>cases h
 | cons y l ih =>
   simp only [List.map_cons,wgt,wgtL,List.length_cons,List.length_map] at ih ⊢
   rcases List.mem_cons.1 h with h | h
   · subst h;omega
   · have:=ih h;omega
theorem EE.wgt_kid1 {e k:EE} (h:k∈e.kids):wgt k.v+1≤wgt e.v:=by
 have h1:=wgt_mem2 (f:=EE.toV) h
 rw [EE.toV_eq] at h1
 have:=EE.wgt_eq e
 omega
theorem EE.wgt_sub1 {e:EE} {q:EQ} (h:q∈e.sub):wgt q.v+1≤wgt e.v:=by
 have h1:=wgt_mem2 (f:=EE.queryV) h
 rw [EE.queryV_eq] at h1
 have:=EE.wgt_eq e
 omega
theorem specl1Max_n (a b:Nat) (s:S):VCalls Try.prog 65 [.int .i64 a,.int .i64 b] s (fun v s'=>v = .int .i64 (max a b:Nat)∧s'=s):=by
 refine LCalls.pure Try.func65 rfl (by kernel_rfl) (by simp) ?_
 repeat' first |(refine kOps ?_;first |(refine LOps.nil ?_) |(refine LOps.ev tT_ok rfl ?_)) |(refine kWL ?_;first |(refine WL.seq ?_) |(refine WL.region (by kernel_rfl) ?_) |(refine WL.skip ?_) |(refine WL.ret ?_) |(refine kCond ?_;first |(refine WL.cond rfl (fun h=>?_) (fun h=>?_)))) |(refine lthen_n ?_) |(refine lthen_r ?_) |(refine LPost.r1 (r := .tmp 4) (.inl rfl) (Res1.tmp rfl) ?_) |(refine PureR.mk ?_)
 all_goals (show V.int .i64 _=V.int .i64 _;congr 1;simp_all;try omega)
def DepC (e:EE):Prop:=∃ n:Nat,n≤wgt e.v+1∧∀ s,VCalls Try.prog 36 [e.v] s (fun v s'=>v = .int .i64 (n:Int)∧s'=s)
def DepQ (q:EQ):Prop:=∃ n:Nat,n≤wgt q.v+1∧∀ s,VCalls Try.prog 66 [q.v] s (fun v s'=>v = .int .i64 (n:Int)∧s'=s)
open Classical in
noncomputable def dpc (e:EE):Nat:=if h:DepC e then h.choose else 0
open Classical in
noncomputable def dqc (q:EQ):Nat:=if h:DepQ q then h.choose else 0
theorem dpc_spec {e:EE} (h:DepC e):dpc e≤wgt e.v+1∧∀ s,VCalls Try.prog 36 [e.v] s (fun v s'=>v = .int .i64 (dpc e:Int)∧s'=s):=by
 unfold dpc
 rw [dif_pos h]
 exact h.choose_spec
theorem dqc_spec {q:EQ} (h:DepQ q):dqc q≤wgt q.v+1∧∀ s,VCalls Try.prog 66 [q.v] s (fun v s'=>v = .int .i64 (dqc q:Int)∧s'=s):=by
 unfold dqc
 rw [dif_pos h]
 exact h.choose_spec
theorem specQueryDepth_c (q:EQ) (hw:wgt q.v≤1048576) (ih:∀ k∈q.parts,DepC k):DepQ q:=by
 have hb:mxF dpc q.exprs≤wgt q.v+1:=mxF_le _ _ fun k hk=>by
   have h1:=(dpc_spec (ih k (exprs_parts hk))).1
   have h2:=EQ.wgt_part (exprs_parts hk)
   omega
 refine ⟨mxF dpc q.exprs,hb,fun s=>?_⟩
 have hX:=fun t=>specl7Exprs_v q hw t
 have hl:=exprs_len q
 have hE:=fun k (hk:k∈q.exprs)=>dpc_spec (ih k (exprs_parts hk))
 generalize q.exprs=l at hX hl hE hb ⊢
 have hml:(l.map EE.toV).length=l.length:=List.length_map ..
 refine LCalls.pure Try.func66 rfl (by kernel_rfl) (by simp) ?_
 repeat' first |(refine kOps ?_;first |(refine LOps.nil ?_) |(refine LOps.ev tT_ok rfl ?_) |(refine kBox ?_;refine LOps.box rfl rfl rfl rfl ?_) |(refine kLoad ?_;first |(refine LOps.ans (AnsL.loadP tT_ok rfl rfl rfl rfl) ?_)) |(refine kCallN 62 ?_;first |(refine LOps.ans (AnsL.callP rfl rfl rfl (ok62) (hX _)) ?_))) |(refine kWL ?_;first |(refine WL.seq ?_) |(refine WL.region (by kernel_rfl) ?_) |(refine WL.block ?_)) |(refine lthen_n ?_)
 refine WL.loopD (fun i:Nat=>l.length - i) (fun i=>[(3,.int .i64 (mxF dpc (l.take i):Nat)),(4,.sl 0 (l.map EE.toV)),(5,.int .i64 (i:Int))]) (fun i=>[.var q.v.cells]) (fun i=>i≤l.length) 1 0 (by simp) (fun _=>rfl) ⟨rfl,rfl,rfl,trivial⟩ rfl (fun i hi=>?_) (fun i hi=>?_)
 · simp [UnderK,UnderX,Own.under,V.under,V.underL,EQ.v,V.cells]
 rcases Nat.lt_or_ge i l.length with hlt | hge
 · have hga : (l.map EE.toV)[i]? = some (EE.v l[i]) := by rw [List.getElem?_map, List.getElem?_eq_getElem hlt]; simp only [Option.map_some, EE.toV_eq]
   have hs:=mxF_succ dpc l hlt
   have hD:=(hE l[i] (List.getElem_mem hlt)).2
   generalize l[i]=x at hga hs hD
   generalize mxF dpc (l.take i)=m at hs ⊢
   repeat' first |(refine kOps ?_;first |(refine LOps.nil ?_) |(refine LOps.ev tT_ok rfl ?_) |(refine kLen ?_;first |(refine LOps.ans (AnsL.lenM tT_ok rfl rfl rfl) ?_)) |(refine kBin ?_;first |(refine LOps.ans (AnsL.add rfl rfl ?_) ?_;(focus (constructor <;> omega)))) |(refine kIdx ?_;first |(refine LOps.ans (AnsL.idx tT_ok rfl rfl rfl rfl rfl hga rfl rfl) ?_)) |(refine kCallN 36 ?_;first |(refine LOps.ans (AnsL.callP rfl rfl rfl (ok36) (hD _)) ?_)) |(refine kCallN 65 ?_;first |(refine LOps.ans (AnsL.callP rfl rfl rfl (ok65) (specl1Max_n _ _ _)) ?_))) |(refine kWL ?_;first |(refine WL.seq ?_) |(refine WL.region (by kernel_rfl) ?_) |(refine WL.block ?_) |(refine WL.skip ?_) |(refine kCond ?_;first |(refine WL.condT' rfl ?_ ?_;(focus (first |(simp <;> omega)))))) |(refine lthen_n ?_) |(refine lblock_n ?_)
   all_goals
     refine lbackD.of (i+1) ?_ ?_ ?_ ?_
     · first | omega |(refine ⟨?_,?_⟩;(focus (first | omega |(simp;omega)));(first | omega |(simp_all [hs] <;> fail) |(simp_all [hs];omega))) |(simp_all [hs] <;> fail) |(simp_all [hs];omega)
     · first | omega |(simp;omega) | simp_all
     · repeat' first
         | exact SubL.nil
         |(refine SubL.mk rfl ?_ ?_)
         | rfl
         |(simp [hs] <;> fail)
         |(simp [hs];omega)
     · first | rfl |(simp [hs] <;> fail) |(simp [hs];omega)
 · rw [List.take_of_length_le hge]
   repeat' first |(refine kOps ?_;first |(refine LOps.nil ?_) |(refine LOps.ev tT_ok rfl ?_) |(refine kLen ?_;first |(refine LOps.ans (AnsL.lenM tT_ok rfl rfl rfl) ?_))) |(refine kWL ?_;first |(refine WL.seq ?_) |(refine WL.region (by kernel_rfl) ?_) |(refine WL.exit ?_) |(refine WL.ret ?_) |(refine kCond ?_;first |(refine WL.condF' rfl ?_ ?_;(focus (first |(simp <;> omega)))))) |(refine lthen_n ?_) |(refine lthen_e ?_) |(refine lblock_e ?_) |(refine lbackD_e ?_) |(refine LPost.r1 (r := .tmp 2) (.inl rfl) (Res1.tmp rfl) ?_) |(refine PureR.mk ?_)
   rfl
theorem specDepthOf_c (e:EE):wgt e.v≤1048576→DepC e:=by
 induction e using EE.ind with
 | h e ih1 ih2 =>
 intro hw
 have iK:=fun k (hk:k∈e.kids)=>ih1 k hk (Nat.le_trans (EE.wgt_kid hk) hw)
 have iQ:=fun q (hq:q∈e.sub)=>specQueryDepth_c q (Nat.le_trans (EE.wgt_sub hq) hw) fun k hk=>ih2 q hq k hk (Nat.le_trans (Nat.le_trans (EQ.wgt_part hk) (EE.wgt_sub hq)) hw)
 have b1:mxF dpc e.kids≤wgt e.v:=mxF_le _ _ fun k hk=>Nat.le_trans (dpc_spec (iK k hk)).1 (EE.wgt_kid1 hk)
 have b2:mxF dqc e.sub≤wgt e.v:=mxF_le _ _ fun q hq=>Nat.le_trans (dqc_spec (iQ q hq)).1 (EE.wgt_sub1 hq)
 refine ⟨max (mxF dpc e.kids) (mxF dqc e.sub)+1,by have:=Nat.max_le.2 ⟨b1,b2⟩;omega,fun s=>?_⟩
 have hm1:(e.kids.map EE.toV).length=e.kids.length:=List.length_map ..
 have hm2:(e.sub.map EE.queryV).length=e.sub.length:=List.length_map ..
 have hkl:e.kids.length≤1048576∧e.sub.length≤1048576:=by
   have h1:=EE.wgt_eq e
   have h2:=wgt_len EE.toV e.kids
   have h3:=wgt_len EE.queryV e.sub
   omega
 refine LCalls.pure Try.func36 rfl (by kernel_rfl) (by simp) ?_
 repeat' first |(refine kOps ?_;first |(refine LOps.nil ?_) |(refine LOps.ev tT_ok rfl ?_) |(refine kBox ?_;refine LOps.box rfl rfl rfl rfl ?_)) |(refine kWL ?_;first |(refine WL.seq ?_) |(refine WL.region (by kernel_rfl) ?_) |(refine WL.block ?_)) |(refine lthen_n ?_)
 refine WL.loopD (fun i:Nat=>e.kids.length - i) (fun i=>[(1,.ptr (s.next+0) 0),(3,.int .i64 (mxF dpc (e.kids.take i):Nat)),(4,.int .i64 (i:Int))]) (fun i=>[.var e.v.cells]) (fun i=>i≤e.kids.length) 1 0 (by simp) (fun _=>rfl) ⟨rfl,rfl,rfl,trivial⟩ rfl (fun i hi=>?_) (fun i hi=>?_)
 · simp [UnderK,UnderX,Own.under,V.under,V.underL,EE.v,V.cells]
 rcases Nat.lt_or_ge i e.kids.length with hlt | hge
 · have hga : (e.kids.map EE.toV)[i]? = some (EE.v e.kids[i]) := by rw [List.getElem?_map, List.getElem?_eq_getElem hlt]; simp only [Option.map_some, EE.toV_eq]
   have hs:=mxF_succ dpc e.kids hlt
   have hD:=(dpc_spec (iK e.kids[i] (List.getElem_mem hlt))).2
   generalize e.kids[i]=x at hga hs hD
   generalize mxF dpc (e.kids.take i)=m at hs ⊢
   repeat' first |(refine kOps ?_;first |(refine LOps.nil ?_) |(refine LOps.ev tT_ok rfl ?_) |(refine kLoad ?_;first |(refine LOps.ans (AnsL.loadP tT_ok rfl rfl rfl rfl) ?_)) |(refine kLen ?_;first |(refine LOps.ans (AnsL.lenM tT_ok rfl rfl rfl) ?_)) |(refine kBin ?_;first |(refine LOps.ans (AnsL.add rfl rfl ?_) ?_;(focus (constructor <;> omega)))) |(refine kIdx ?_;first |(refine LOps.ans (AnsL.idx tT_ok rfl rfl rfl rfl rfl hga rfl rfl) ?_)) |(refine kCallN 36 ?_;first |(refine LOps.ans (AnsL.callP rfl rfl rfl (ok36) (hD _)) ?_)) |(refine kCallN 65 ?_;first |(refine LOps.ans (AnsL.callP rfl rfl rfl (ok65) (specl1Max_n _ _ _)) ?_))) |(refine kWL ?_;first |(refine WL.seq ?_) |(refine WL.region (by kernel_rfl) ?_) |(refine WL.block ?_) |(refine WL.skip ?_) |(refine kCond ?_;first |(refine WL.condT' rfl ?_ ?_;(focus (first |(simp <;> omega)))))) |(refine lthen_n ?_) |(refine lblock_n ?_)
   all_goals
     refine lbackD.of (i+1) ?_ ?_ ?_ ?_
     · first | omega |(refine ⟨?_,?_⟩;(focus (first | omega |(simp;omega)));(first | omega |(simp_all [hs] <;> fail) |(simp_all [hs];omega))) |(simp_all [hs] <;> fail) |(simp_all [hs];omega)
     · first | omega |(simp;omega) | simp_all
     · repeat' first
         | exact SubL.nil
         |(refine SubL.mk rfl ?_ ?_)
         | rfl
         |(simp [hs] <;> fail)
         |(simp [hs];omega)
     · first | rfl |(simp [hs] <;> fail) |(simp [hs];omega)
 rw [List.take_of_length_le hge]
 generalize mxF dpc e.kids=M at b1 ⊢
 repeat' first |(refine kOps ?_;first |(refine LOps.nil ?_) |(refine LOps.ev tT_ok rfl ?_) |(refine kLoad ?_;first |(refine LOps.ans (AnsL.loadP tT_ok rfl rfl rfl rfl) ?_)) |(refine kLen ?_;first |(refine LOps.ans (AnsL.lenM tT_ok rfl rfl rfl) ?_))) |(refine kWL ?_;first |(refine WL.seq ?_) |(refine WL.region (by kernel_rfl) ?_) |(refine WL.block ?_) |(refine WL.exit ?_) |(refine kCond ?_;first |(refine WL.condF' rfl ?_ ?_;(focus (first |(simp <;> omega)))))) |(refine lthen_n ?_) |(refine lthen_e ?_) |(refine lblock_e ?_) |(refine lbackD_e ?_)
 refine WL.loopD (fun i:Nat=>e.sub.length - i) (fun i=>[(1,.ptr (s.next+0) 0),(3,.int .i64 (max M (mxF dqc (e.sub.take i)):Nat)),(5,.int .i64 (i:Int))]) (fun i=>[.var e.v.cells]) (fun i=>i≤e.sub.length) 1 0 (by simp) (fun _=>rfl) ⟨rfl,by simp [mxF];rfl,rfl,trivial⟩ rfl (fun i hi=>?_) (fun i hi=>?_)
 · simp [UnderK,UnderX,Own.under,V.under,V.underL,EE.v,V.cells]
 rcases Nat.lt_or_ge i e.sub.length with hlt | hge
 · have hga : (e.sub.map EE.queryV)[i]? = some (EQ.v e.sub[i]) := by rw [List.getElem?_map, List.getElem?_eq_getElem hlt]; simp only [Option.map_some, EE.queryV_eq]
   have hs:=mxF_succ dqc e.sub hlt
   have hD:=(dqc_spec (iQ e.sub[i] (List.getElem_mem hlt))).2
   generalize e.sub[i]=x at hga hs hD
   generalize mxF dqc (e.sub.take i)=m at hs ⊢
   have hs2:max M (mxF dqc (e.sub.take (i+1)))=max (max M m) (dqc x):=by rw [hs,Nat.max_assoc]
   generalize max M m=mm at hs2 ⊢
   repeat' first |(refine kOps ?_;first |(refine LOps.nil ?_) |(refine LOps.ev tT_ok rfl ?_) |(refine kLoad ?_;first |(refine LOps.ans (AnsL.loadP tT_ok rfl rfl rfl rfl) ?_)) |(refine kLen ?_;first |(refine LOps.ans (AnsL.lenM tT_ok rfl rfl rfl) ?_)) |(refine kBin ?_;first |(refine LOps.ans (AnsL.add rfl rfl ?_) ?_;(focus (constructor <;> omega)))) |(refine kIdx ?_;first |(refine LOps.ans (AnsL.idx tT_ok rfl rfl rfl rfl rfl hga rfl rfl) ?_)) |(refine kCallN 65 ?_;first |(refine LOps.ans (AnsL.callP rfl rfl rfl (ok65) (specl1Max_n _ _ _)) ?_)) |(refine kCallN 66 ?_;first |(refine LOps.ans (AnsL.callP rfl rfl rfl (ok66) (hD _)) ?_))) |(refine kWL ?_;first |(refine WL.seq ?_) |(refine WL.region (by kernel_rfl) ?_) |(refine WL.block ?_) |(refine WL.skip ?_) |(refine kCond ?_;first |(refine WL.condT' rfl ?_ ?_;(focus (first |(simp <;> omega)))))) |(refine lthen_n ?_) |(refine lblock_n ?_)
   all_goals
     refine lbackD.of (i+1) ?_ ?_ ?_ ?_
     · first | omega |(refine ⟨?_,?_⟩;(focus (first | omega |(simp;omega)));(first | omega |(simp_all [hs2] <;> fail) |(simp_all [hs2];omega))) |(simp_all [hs2] <;> fail) |(simp_all [hs2];omega)
     · first | omega |(simp;omega) | simp_all
     · repeat' first
         | exact SubL.nil
         |(refine SubL.mk rfl ?_ ?_)
         | rfl
         |(simp [hs2] <;> fail)
         |(simp [hs2];omega)
     · first | rfl |(simp [hs2] <;> fail) |(simp [hs2];omega)
 rw [List.take_of_length_le hge]
 have hmm:=Nat.max_le.2 ⟨b1,b2⟩
 generalize max M (mxF dqc e.sub)=mm at hmm ⊢
 repeat' first |(refine kOps ?_;first |(refine LOps.nil ?_) |(refine LOps.ev tT_ok rfl ?_) |(refine kLoad ?_;first |(refine LOps.ans (AnsL.loadP tT_ok rfl rfl rfl rfl) ?_)) |(refine kLen ?_;first |(refine LOps.ans (AnsL.lenM tT_ok rfl rfl rfl) ?_)) |(refine kBin ?_;first |(refine LOps.ans (AnsL.add rfl rfl ?_) ?_;(focus (constructor <;> omega))))) |(refine kWL ?_;first |(refine WL.seq ?_) |(refine WL.region (by kernel_rfl) ?_) |(refine WL.exit ?_) |(refine WL.ret ?_) |(refine kCond ?_;first |(refine WL.condF' rfl ?_ ?_;(focus (first |(simp <;> omega)))))) |(refine lthen_n ?_) |(refine lthen_e ?_) |(refine lblock_e ?_) |(refine lbackD_e ?_) |(refine LPost.r1 (r := .tmp 2) (.inl rfl) (Res1.tmp rfl) ?_) |(refine PureR.mk ?_)
 rfl
end Go.Proofs.Ytikghanejpigjaa
