/-
 Queries' trees and queries compared, of the program and of the reference. Printed by a program of our own; no condition.
-/
import Derived.Test.YtikghanejpigjaaDEE
import Derived.Test.YtikghanejpigjaaMg20
namespace Go.Proofs.Ytikghanejpigjaa
open Go
set_option linter.unusedSimpArgs false
set_option linter.unusedVariables false
mutual
def EE.eqB:EE→EE→Bool
 | .mk k o n v u p kids sub,y=>decide (k=y.kind)&&(decide (o=y.op)&&(decide (n=y.nt)&&(valEq v y.value&&(decide (u=y.qual)&&(decide (p=y.name)&&(EE.eqL kids y.kids&&EE.eqQs sub y.sub))))))
def EE.eqL:List EE→List EE→Bool
 | x::xs,y::ys=>EE.eqB x y&&EE.eqL xs ys
 | [],[]=>true
 | _,_=>false
def EE.eqQs:List (QueryOf EE)→List (QueryOf EE)→Bool
 | x::xs,y::ys=>EE.eqQ x y&&EE.eqQs xs ys
 | [],[]=>true
 | _,_=>false
def EE.eqQ:QueryOf EE→QueryOf EE→Bool
 | ⟨d,i,f,w,o,l⟩,q=>decide (d=q.distinct)&&(decide (l=q.limit)&&(EE.eqIs i q.items&&(EE.eqFs f q.src&&(EE.eqL w q.wher&&EE.eqOs o q.order))))
def EE.eqIs:List (ItemOf EE)→List (ItemOf EE)→Bool
 | x::xs,y::ys=>EE.eqI x y&&EE.eqIs xs ys
 | [],[]=>true
 | _,_=>false
def EE.eqI:ItemOf EE→ItemOf EE→Bool
 | ⟨s,q,e,a⟩,y=>decide (s=y.star)&&(decide (q=y.qual)&&(decide (a=y.als)&&EE.eqB e y.e))
def EE.eqFs:List (SrcOf EE)→List (SrcOf EE)→Bool
 | x::xs,y::ys=>EE.eqF x y&&EE.eqFs xs ys
 | [],[]=>true
 | _,_=>false
def EE.eqF:SrcOf EE→SrcOf EE→Bool
 | ⟨t,a,on⟩,y=>decide (t=y.table)&&(decide (a=y.als)&&EE.eqL on y.on)
def EE.eqOs:List (EE × Bool)→List (EE × Bool)→Bool
 | x::xs,y::ys=>EE.eqO x y&&EE.eqOs xs ys
 | [],[]=>true
 | _,_=>false
def EE.eqO:EE × Bool→EE × Bool→Bool
 |(e,d),y=>decide (d=y.2)&&EE.eqB e y.1
end
theorem same_cons {α : Type} (p : α → α → Bool) (x y : α) (xs ys:List α):same p (x::xs) (y::ys)=(p x y&&same p xs ys):=by
 unfold same
 simp only [List.length_cons,Nat.add_right_cancel_iff,eqAll]
 cases p x y <;> cases decide (xs.length=ys.length) <;> rfl
theorem same_nc {α : Type} (p : α → α → Bool) (x : α) (xs:List α):same p [] (x::xs)=false∧same p (x::xs) []=false:=by constructor <;> simp [same]
theorem EE.eqL_eq:∀ (a b:List EE),EE.eqL a b=same EE.eqB a b
 | x::xs,y::ys=>by rw [same_cons,EE.eqL,EE.eqL_eq xs ys]
 | [],[]=>by simp [EE.eqL,same,eqAll]
 | [],y::ys=>by rw [(same_nc _ y ys).1];simp [EE.eqL]
 | y::ys,[]=>by rw [(same_nc _ y ys).2];simp [EE.eqL]
theorem EE.eqQs_eq:∀ (a b:List (QueryOf EE)),EE.eqQs a b=same EE.eqQ a b
 | x::xs,y::ys=>by rw [same_cons,EE.eqQs,EE.eqQs_eq xs ys]
 | [],[]=>by simp [EE.eqQs,same,eqAll]
 | [],y::ys=>by rw [(same_nc _ y ys).1];simp [EE.eqQs]
 | y::ys,[]=>by rw [(same_nc _ y ys).2];simp [EE.eqQs]
theorem EE.eqIs_eq:∀ (a b:List (ItemOf EE)),EE.eqIs a b=same EE.eqI a b
 | x::xs,y::ys=>by rw [same_cons,EE.eqIs,EE.eqIs_eq xs ys]
 | [],[]=>by simp [EE.eqIs,same,eqAll]
 | [],y::ys=>by rw [(same_nc _ y ys).1];simp [EE.eqIs]
 | y::ys,[]=>by rw [(same_nc _ y ys).2];simp [EE.eqIs]
theorem EE.eqFs_eq:∀ (a b:List (SrcOf EE)),EE.eqFs a b=same EE.eqF a b
 | x::xs,y::ys=>by rw [same_cons,EE.eqFs,EE.eqFs_eq xs ys]
 | [],[]=>by simp [EE.eqFs,same,eqAll]
 | [],y::ys=>by rw [(same_nc _ y ys).1];simp [EE.eqFs]
 | y::ys,[]=>by rw [(same_nc _ y ys).2];simp [EE.eqFs]
theorem EE.eqOs_eq:∀ (a b:List (EE × Bool)),EE.eqOs a b=same EE.eqO a b
 | x::xs,y::ys=>by rw [same_cons,EE.eqOs,EE.eqOs_eq xs ys]
 | [],[]=>by simp [EE.eqOs,same,eqAll]
 | [],y::ys=>by rw [(same_nc _ y ys).1];simp [EE.eqOs]
 | y::ys,[]=>by rw [(same_nc _ y ys).2];simp [EE.eqOs]
theorem EE.eqB_eq (x y:EE):x.eqB y=(decide (x.kind=y.kind)&&(decide (x.op=y.op)&&(decide (x.nt=y.nt)&&(valEq x.value y.value&&(decide (x.qual=y.qual)&&(decide (x.name=y.name)&&(same EE.eqB x.kids y.kids&&same EE.eqQ x.sub y.sub))))))):=by
 cases x
 cases y
 simp only [EE.eqB,EE.eqL_eq,EE.eqQs_eq,EE.kind,EE.op,EE.nt,EE.value,EE.qual,EE.name,EE.kids,EE.sub]
 rfl
theorem EE.eqO_eq (x y:EE × Bool):EE.eqO x y=(decide (x.2=y.2)&&EE.eqB x.1 y.1):=by
 obtain ⟨e,d⟩:=x
 obtain ⟨e2,d2⟩:=y
 simp only [EE.eqO]
theorem EE.eqI_eq (x y:EItem):EE.eqI x y=(decide (x.star=y.star)&&(decide (x.qual=y.qual)&&(decide (x.als=y.als)&&EE.eqB x.e y.e))):=by
 obtain ⟨s,q,e,a⟩:=x
 simp only [EE.eqI]
theorem EE.eqF_eq (x y:ESrc):EE.eqF x y=(decide (x.table=y.table)&&(decide (x.als=y.als)&&same EE.eqB x.on y.on)):=by
 obtain ⟨t,a,on⟩:=x
 simp only [EE.eqF,EE.eqL_eq]
theorem EE.eqQ_eq (p q:EQ):EE.eqQ p q=(decide (p.distinct=q.distinct)&&(decide (p.limit=q.limit)&&(same EE.eqI p.items q.items&&(same EE.eqF p.src q.src&&(same EE.eqB p.wher q.wher&&same EE.eqO p.order q.order))))):=by
 obtain ⟨d,i,f,w,o,l⟩:=p
 simp only [EE.eqQ,EE.eqIs_eq,EE.eqFs_eq,EE.eqL_eq,EE.eqOs_eq]
theorem same_iff {α : Type} {p : α → α → Bool}:∀ (l m:List α),(∀ x∈l,∀ y,p x y=true↔x=y)→(same p l m=true↔l=m)
 | [],[],_=>by simp [same,eqAll]
 | x::l,[],_=>by simp [same]
 | [],y::m,_=>by simp [same]
 | x::l,y::m,h=>by
   rw [same_cons,Bool.and_eq_true,h x (by simp) y,same_iff l m fun z hz=>h z (by simp [hz]),List.cons.injEq]
theorem valEq_iff (v w:Val):valEq v w=true↔v=w:=by
 obtain ⟨a,b,c⟩:=v
 obtain ⟨d,e,f⟩:=w
 simp [valEq,Val.mk.injEq]
theorem EE.ext2 {x y:EE} (h1:x.kind=y.kind) (h2:x.op=y.op) (h3:x.nt=y.nt) (h4:x.value=y.value) (h5:x.qual=y.qual) (h6:x.name=y.name) (h7:x.kids=y.kids) (h8:x.sub=y.sub):x=y:=by
 cases x
 cases y
 simp only [EE.kind,EE.op,EE.nt,EE.value,EE.qual,EE.name,EE.kids,EE.sub] at *
 subst h1 h2 h3 h4 h5 h6 h7 h8
 rfl
theorem EE.eqI_iff {x:EItem} (h:∀ y,EE.eqB x.e y=true↔x.e=y) (y:EItem):EE.eqI x y=true↔x=y:=by
 rw [EE.eqI_eq]
 simp only [Bool.and_eq_true,decide_eq_true_eq,h y.e]
 obtain ⟨s,q,e,a⟩:=x
 obtain ⟨s2,q2,e2,a2⟩:=y
 simp only [ItemOf.mk.injEq]
 constructor <;> (rintro ⟨a,b,c,d⟩;exact ⟨a,b,d,c⟩)
theorem EE.eqF_iff {x:ESrc} (h:∀ k∈x.on,∀ y,EE.eqB k y=true↔k=y) (y:ESrc):EE.eqF x y=true↔x=y:=by
 rw [EE.eqF_eq]
 simp only [Bool.and_eq_true,decide_eq_true_eq,same_iff x.on y.on h]
 obtain ⟨t,a,on⟩:=x
 obtain ⟨t2,a2,on2⟩:=y
 simp only [SrcOf.mk.injEq]
theorem EE.eqO_iff {x:EE × Bool} (h:∀ y,EE.eqB x.1 y=true↔x.1=y) (y:EE × Bool):EE.eqO x y=true↔x=y:=by
 rw [EE.eqO_eq]
 simp only [Bool.and_eq_true,decide_eq_true_eq,h y.1]
 obtain ⟨e,d⟩:=x
 obtain ⟨e2,d2⟩:=y
 simp only [Prod.mk.injEq]
 exact And.comm
theorem EE.eqQ_iff {p:EQ} (h:∀ k∈p.parts,∀ y,EE.eqB k y=true↔k=y) (q:EQ):EE.eqQ p q=true↔p=q:=by
 rw [EE.eqQ_eq]
 simp only [Bool.and_eq_true,decide_eq_true_eq,same_iff p.items q.items fun x hx=>EE.eqI_iff (h _ (QueryOf.mem_items hx)),same_iff p.src q.src fun x hx=>EE.eqF_iff fun k hk=>h k (QueryOf.mem_src hx hk),
   same_iff p.wher q.wher fun k hk=>h k (QueryOf.mem_wher hk),same_iff p.order q.order fun x hx=>EE.eqO_iff (h _ (QueryOf.mem_order hx))]
 obtain ⟨d,i,f,w,o,l⟩:=p
 obtain ⟨d2,i2,f2,w2,o2,l2⟩:=q
 simp only [QueryOf.mk.injEq]
 constructor
 · rintro ⟨a,b,c,d,e,f⟩;exact ⟨a,c,d,e,f,b⟩
 · rintro ⟨a,c,d,e,f,b⟩;exact ⟨a,b,c,d,e,f⟩
theorem EE.eqB_iff (x:EE):∀ y,x.eqB y=true↔x=y:=by
 induction x using EE.ind with
 | h e ih1 ih2 =>
   intro y
   rw [EE.eqB_eq]
   simp only [Bool.and_eq_true,decide_eq_true_eq,valEq_iff,same_iff e.kids y.kids ih1,same_iff e.sub y.sub fun p hp=>EE.eqQ_iff (ih2 p hp)]
   constructor
   · rintro ⟨a,b,c,d,e,f,g,h⟩;exact EE.ext2 a b c d e f g h
   · rintro rfl;exact ⟨rfl,rfl,rfl,rfl,rfl,rfl,rfl,rfl⟩
theorem EE.eqB_comm (x y:EE):x.eqB y=y.eqB x:=by
 rw [Bool.eq_iff_iff,EE.eqB_iff,EE.eqB_iff]
 exact eq_comm
theorem wf_len2 {i j:Nat} {xs ys:List V} {r:List V} (h:(V.sl i xs::V.sl j ys::r).all V.wf=true):xs.length≤9223372036854775807∧ys.length≤9223372036854775807:=by
 simp only [List.all_cons,Bool.and_eq_true,V.wf,decide_eq_true_eq] at h
 obtain ⟨⟨h1,_⟩,⟨h2,_⟩,_⟩:=h
 unfold maxLen at h1 h2
 omega
theorem equalFuncEE_v (a b:List EE) (s:S) (p:EE→EE→Bool) (g:FuncId) (caps:List V) (hg:CallOk Try.prog g) (hcd:V.underL s.next caps=true) (hp1:∀ x,x∈a→∀ y,y∈b→∀ ys,VCalls Try.prog g (EE.v x::EE.v y::caps) (s.ext ys) (fun v s'=>v = .bool (p x y)∧s'=s.ext ys)):VCalls Try.prog 55 [.sl 0 (a.map EE.toV),.sl 0 (b.map EE.toV),.fn g caps] s (fun v s'=>v = .bool (same p a b)∧s'=s):=by
 refine VCalls.wf fun hwf=>?_
 obtain ⟨h1,h2⟩:=wf_len2 hwf
 rw [List.length_map] at h1 h2
 refine LCalls.pure Try.func55 rfl (by kernel_rfl) (by simp) ?_
 by_cases hnn:¬ (a.length:Int)=b.length
 · skip
   repeat' first |(refine kOps ?_;first |(refine LOps.nil ?_) |(refine LOps.ev tT_ok rfl ?_) |(refine kLen ?_;first |(refine LOps.ans (AnsL.lenM tT_ok rfl rfl rfl) ?_))) |(refine kWL ?_;first |(refine WL.seq ?_) |(refine WL.region (by kernel_rfl) ?_) |(refine WL.ret ?_) |(refine kCond ?_;first |(refine WL.condT' rfl ?_ ?_;(focus (first |(simp <;> omega)))))) |(refine lthen_n ?_) |(refine lthen_r ?_) |(refine LPost.r1 (r := .tmp 6) (.inl rfl) (Res1.tmp rfl) ?_) |(refine PureR.mk ?_)
   rw [same_ne hnn];rfl
 have hne:(a.length:Int)=b.length:=by omega
 repeat' first |(refine kOps ?_;first |(refine LOps.nil ?_) |(refine LOps.ev tT_ok rfl ?_) |(refine kLen ?_;first |(refine LOps.ans (AnsL.lenM tT_ok rfl rfl rfl) ?_))) |(refine kWL ?_;first |(refine WL.seq ?_) |(refine WL.region (by kernel_rfl) ?_) |(refine WL.block ?_) |(refine WL.skip ?_) |(refine kCond ?_;first |(refine WL.condF' rfl ?_ ?_;(focus (first |(simp <;> omega)))))) |(refine lthen_n ?_)
 refine WL.loopD (fun i:Nat=>a.length - i) (fun i=>[(1,.sl 0 (b.map EE.toV)),(2,.fn g caps),(15,.sl 0 (a.map EE.toV)),(16,.int .i64 a.length),(17,.int .i64 (i:Int))]) (fun i=>[])
   (fun i=>i≤a.length∧same p a b=eqAll p (a.drop i) (b.drop i)) 0 0 ⟨by omega,same_eq hne⟩ (fun _=>rfl) ⟨rfl,rfl,rfl,rfl,rfl,trivial⟩ rfl (fun i hi=>?_) (fun i hi=>?_)
 · refine ⟨?_, rfl⟩
   simp only [UnderK,List.all_cons,List.all_nil,Bool.and_true,Bool.and_eq_true]
   refine ⟨under_dat (plain_dat _ (plain_ExprS _)),hcd,under_dat (plain_dat _ (plain_ExprS _)),rfl,rfl⟩
 obtain ⟨hi,hc⟩:=hi
 rcases Nat.lt_or_ge i a.length with hlt | hge
 · have hlt2 : i < b.length := by omega
   have hga:(a.map EE.toV)[i]?=some (EE.v a[i]):=by rw [List.getElem?_map,List.getElem?_eq_getElem hlt];simp only [Option.map_some,EE.toV_eq]
   have hgb:(b.map EE.toV)[i]?=some (EE.v b[i]):=by rw [List.getElem?_map,List.getElem?_eq_getElem hlt2];simp only [Option.map_some,EE.toV_eq]
   rw [eqAll_drop hlt hlt2] at hc
   have hE:=hp1 a[i] (List.getElem_mem hlt) b[i] (List.getElem_mem hlt2)
   cases hp:p a[i] b[i]
   all_goals rw [hp] at hE
   · skip
     repeat' first |(refine kOps ?_;first |(refine LOps.nil ?_) |(refine kStore ?_;refine LOps.storeP tT_ok rfl rfl rfl rfl rfl rfl rfl rfl rfl ?_) |(refine LOps.ev tT_ok rfl ?_) |(refine kAlloc ?_;refine LOps.alloc tT_ok rfl rfl rfl rfl ?_) |(refine kLoad ?_;first |(refine LOps.ans (AnsL.loadP tT_ok rfl rfl rfl rfl) ?_)) |(refine kIdx ?_;first |(refine LOps.ans (AnsL.idx tT_ok rfl rfl rfl rfl rfl hga rfl rfl) ?_) |(refine LOps.ans (AnsL.idx tT_ok rfl rfl rfl rfl rfl hgb rfl rfl) ?_)) |(refine kCall ?_;first |(refine LOps.ans (AnsL.callP rfl rfl rfl (hg) (hE _)) ?_))) |(refine kWL ?_;first |(refine WL.seq ?_) |(refine WL.region (by kernel_rfl) ?_) |(refine WL.block ?_) |(refine WL.skip ?_) |(refine WL.ret ?_) |(refine kCond ?_;first |(refine WL.condT rfl ?_) |(refine WL.condT' rfl ?_ ?_;(focus (first |(simp <;> omega)))))) |(refine lthen_n ?_) |(refine lthen_r ?_) |(refine lblock_r ?_) |(refine lbackD_r ?_) |(refine LPost.r1 (r := .tmp 6) (.inl rfl) (Res1.tmp rfl) ?_) |(refine PureR.mk ?_)
     all_goals simp_all
   · skip
     repeat' first |(refine kOps ?_;first |(refine LOps.nil ?_) |(refine kStore ?_;refine LOps.storeP tT_ok rfl rfl rfl rfl rfl rfl rfl rfl rfl ?_) |(refine LOps.ev tT_ok rfl ?_) |(refine kAlloc ?_;refine LOps.alloc tT_ok rfl rfl rfl rfl ?_) |(refine kLoad ?_;first |(refine LOps.ans (AnsL.loadP tT_ok rfl rfl rfl rfl) ?_)) |(refine kBin ?_;first |(refine LOps.ans (AnsL.add rfl rfl ?_) ?_;(focus (constructor <;> omega)))) |(refine kIdx ?_;first |(refine LOps.ans (AnsL.idx tT_ok rfl rfl rfl rfl rfl hga rfl rfl) ?_) |(refine LOps.ans (AnsL.idx tT_ok rfl rfl rfl rfl rfl hgb rfl rfl) ?_)) |(refine kCall ?_;first |(refine LOps.ans (AnsL.callP rfl rfl rfl (hg) (hE _)) ?_))) |(refine kWL ?_;first |(refine WL.seq ?_) |(refine WL.region (by kernel_rfl) ?_) |(refine WL.block ?_) |(refine WL.skip ?_) |(refine kCond ?_;first |(refine WL.condF rfl ?_) |(refine WL.condT' rfl ?_ ?_;(focus (first |(simp <;> omega)))))) |(refine lthen_n ?_) |(refine lblock_n ?_)
     all_goals
       refine lbackD.of (i+1) ?_ ?_ ?_ ?_
       · first | omega |(refine ⟨?_,?_⟩;(focus (first | omega |(simp;omega)));(first | omega |(simp_all [hc,hp] <;> fail) |(simp_all [hc,hp];omega))) |(simp_all [hc,hp] <;> fail) |(simp_all [hc,hp];omega)
       · first | omega |(simp;omega) | simp_all
       · repeat' first
           | exact SubL.nil
           |(refine SubL.mk rfl ?_ ?_)
           | rfl
           |(simp [hc,hp] <;> fail)
           |(simp [hc,hp];omega)
       · first | rfl |(simp [hc,hp] <;> fail) |(simp [hc,hp];omega)
 · rw [eqAll_end hge] at hc
   repeat' first |(refine kOps ?_;first |(refine LOps.nil ?_) |(refine LOps.ev tT_ok rfl ?_)) |(refine kWL ?_;first |(refine WL.seq ?_) |(refine WL.region (by kernel_rfl) ?_) |(refine WL.exit ?_) |(refine WL.ret ?_) |(refine kCond ?_;first |(refine WL.condF' rfl ?_ ?_;(focus (first |(simp <;> omega)))))) |(refine lthen_n ?_) |(refine lthen_e ?_) |(refine lblock_e ?_) |(refine lbackD_e ?_) |(refine LPost.r1 (r := .tmp 6) (.inl rfl) (Res1.tmp rfl) ?_) |(refine PureR.mk ?_)
   rw [hc];rfl
theorem equalFuncEI_v (a b:List EItem) (s:S) (p:EItem→EItem→Bool) (g:FuncId) (caps:List V) (hg:CallOk Try.prog g) (hcd:V.underL s.next caps=true) (hp1:∀ x,x∈a→∀ y,y∈b→∀ ys,VCalls Try.prog g (EItem.v x::EItem.v y::caps) (s.ext ys) (fun v s'=>v = .bool (p x y)∧s'=s.ext ys)):VCalls Try.prog 59 [.sl 0 (a.map EItem.v),.sl 0 (b.map EItem.v),.fn g caps] s (fun v s'=>v = .bool (same p a b)∧s'=s):=by
 refine VCalls.wf fun hwf=>?_
 obtain ⟨h1,h2⟩:=wf_len2 hwf
 rw [List.length_map] at h1 h2
 refine LCalls.pure Try.func59 rfl (by kernel_rfl) (by simp) ?_
 by_cases hnn:¬ (a.length:Int)=b.length
 · skip
   repeat' first |(refine kOps ?_;first |(refine LOps.nil ?_) |(refine LOps.ev tT_ok rfl ?_) |(refine kLen ?_;first |(refine LOps.ans (AnsL.lenM tT_ok rfl rfl rfl) ?_))) |(refine kWL ?_;first |(refine WL.seq ?_) |(refine WL.region (by kernel_rfl) ?_) |(refine WL.ret ?_) |(refine kCond ?_;first |(refine WL.condT' rfl ?_ ?_;(focus (first |(simp <;> omega)))))) |(refine lthen_n ?_) |(refine lthen_r ?_) |(refine LPost.r1 (r := .tmp 6) (.inl rfl) (Res1.tmp rfl) ?_) |(refine PureR.mk ?_)
   rw [same_ne hnn];rfl
 have hne:(a.length:Int)=b.length:=by omega
 repeat' first |(refine kOps ?_;first |(refine LOps.nil ?_) |(refine LOps.ev tT_ok rfl ?_) |(refine kLen ?_;first |(refine LOps.ans (AnsL.lenM tT_ok rfl rfl rfl) ?_))) |(refine kWL ?_;first |(refine WL.seq ?_) |(refine WL.region (by kernel_rfl) ?_) |(refine WL.block ?_) |(refine WL.skip ?_) |(refine kCond ?_;first |(refine WL.condF' rfl ?_ ?_;(focus (first |(simp <;> omega)))))) |(refine lthen_n ?_)
 refine WL.loopD (fun i:Nat=>a.length - i) (fun i=>[(1,.sl 0 (b.map EItem.v)),(2,.fn g caps),(15,.sl 0 (a.map EItem.v)),(16,.int .i64 a.length),(17,.int .i64 (i:Int))]) (fun i=>[])
   (fun i=>i≤a.length∧same p a b=eqAll p (a.drop i) (b.drop i)) 0 0 ⟨by omega,same_eq hne⟩ (fun _=>rfl) ⟨rfl,rfl,rfl,rfl,rfl,trivial⟩ rfl (fun i hi=>?_) (fun i hi=>?_)
 · refine ⟨?_, rfl⟩
   simp only [UnderK,List.all_cons,List.all_nil,Bool.and_true,Bool.and_eq_true]
   refine ⟨under_dat (plain_dat _ (plain_ItemS _)),hcd,under_dat (plain_dat _ (plain_ItemS _)),rfl,rfl⟩
 obtain ⟨hi,hc⟩:=hi
 rcases Nat.lt_or_ge i a.length with hlt | hge
 · have hlt2 : i < b.length := by omega
   have hga:(a.map EItem.v)[i]?=some (EItem.v a[i]):=by rw [List.getElem?_map,List.getElem?_eq_getElem hlt];rfl
   have hgb:(b.map EItem.v)[i]?=some (EItem.v b[i]):=by rw [List.getElem?_map,List.getElem?_eq_getElem hlt2];rfl
   rw [eqAll_drop hlt hlt2] at hc
   have hE:=hp1 a[i] (List.getElem_mem hlt) b[i] (List.getElem_mem hlt2)
   cases hp:p a[i] b[i]
   all_goals rw [hp] at hE
   · skip
     repeat' first |(refine kOps ?_;first |(refine LOps.nil ?_) |(refine kStore ?_;refine LOps.storeP tT_ok rfl rfl rfl rfl rfl rfl rfl rfl rfl ?_) |(refine LOps.ev tT_ok rfl ?_) |(refine kAlloc ?_;refine LOps.alloc tT_ok rfl rfl rfl rfl ?_) |(refine kLoad ?_;first |(refine LOps.ans (AnsL.loadP tT_ok rfl rfl rfl rfl) ?_)) |(refine kIdx ?_;first |(refine LOps.ans (AnsL.idx tT_ok rfl rfl rfl rfl rfl hga rfl rfl) ?_) |(refine LOps.ans (AnsL.idx tT_ok rfl rfl rfl rfl rfl hgb rfl rfl) ?_)) |(refine kCall ?_;first |(refine LOps.ans (AnsL.callP rfl rfl rfl (hg) (hE _)) ?_))) |(refine kWL ?_;first |(refine WL.seq ?_) |(refine WL.region (by kernel_rfl) ?_) |(refine WL.block ?_) |(refine WL.skip ?_) |(refine WL.ret ?_) |(refine kCond ?_;first |(refine WL.condT rfl ?_) |(refine WL.condT' rfl ?_ ?_;(focus (first |(simp <;> omega)))))) |(refine lthen_n ?_) |(refine lthen_r ?_) |(refine lblock_r ?_) |(refine lbackD_r ?_) |(refine LPost.r1 (r := .tmp 6) (.inl rfl) (Res1.tmp rfl) ?_) |(refine PureR.mk ?_)
     all_goals simp_all
   · skip
     repeat' first |(refine kOps ?_;first |(refine LOps.nil ?_) |(refine kStore ?_;refine LOps.storeP tT_ok rfl rfl rfl rfl rfl rfl rfl rfl rfl ?_) |(refine LOps.ev tT_ok rfl ?_) |(refine kAlloc ?_;refine LOps.alloc tT_ok rfl rfl rfl rfl ?_) |(refine kLoad ?_;first |(refine LOps.ans (AnsL.loadP tT_ok rfl rfl rfl rfl) ?_)) |(refine kBin ?_;first |(refine LOps.ans (AnsL.add rfl rfl ?_) ?_;(focus (constructor <;> omega)))) |(refine kIdx ?_;first |(refine LOps.ans (AnsL.idx tT_ok rfl rfl rfl rfl rfl hga rfl rfl) ?_) |(refine LOps.ans (AnsL.idx tT_ok rfl rfl rfl rfl rfl hgb rfl rfl) ?_)) |(refine kCall ?_;first |(refine LOps.ans (AnsL.callP rfl rfl rfl (hg) (hE _)) ?_))) |(refine kWL ?_;first |(refine WL.seq ?_) |(refine WL.region (by kernel_rfl) ?_) |(refine WL.block ?_) |(refine WL.skip ?_) |(refine kCond ?_;first |(refine WL.condF rfl ?_) |(refine WL.condT' rfl ?_ ?_;(focus (first |(simp <;> omega)))))) |(refine lthen_n ?_) |(refine lblock_n ?_)
     all_goals
       refine lbackD.of (i+1) ?_ ?_ ?_ ?_
       · first | omega |(refine ⟨?_,?_⟩;(focus (first | omega |(simp;omega)));(first | omega |(simp_all [hc,hp] <;> fail) |(simp_all [hc,hp];omega))) |(simp_all [hc,hp] <;> fail) |(simp_all [hc,hp];omega)
       · first | omega |(simp;omega) | simp_all
       · repeat' first
           | exact SubL.nil
           |(refine SubL.mk rfl ?_ ?_)
           | rfl
           |(simp [hc,hp] <;> fail)
           |(simp [hc,hp];omega)
       · first | rfl |(simp [hc,hp] <;> fail) |(simp [hc,hp];omega)
 · rw [eqAll_end hge] at hc
   repeat' first |(refine kOps ?_;first |(refine LOps.nil ?_) |(refine LOps.ev tT_ok rfl ?_)) |(refine kWL ?_;first |(refine WL.seq ?_) |(refine WL.region (by kernel_rfl) ?_) |(refine WL.exit ?_) |(refine WL.ret ?_) |(refine kCond ?_;first |(refine WL.condF' rfl ?_ ?_;(focus (first |(simp <;> omega)))))) |(refine lthen_n ?_) |(refine lthen_e ?_) |(refine lblock_e ?_) |(refine lbackD_e ?_) |(refine LPost.r1 (r := .tmp 6) (.inl rfl) (Res1.tmp rfl) ?_) |(refine PureR.mk ?_)
   rw [hc];rfl
theorem equalFuncEF_v (a b:List ESrc) (s:S) (p:ESrc→ESrc→Bool) (g:FuncId) (caps:List V) (hg:CallOk Try.prog g) (hcd:V.underL s.next caps=true) (hp1:∀ x,x∈a→∀ y,y∈b→∀ ys,VCalls Try.prog g (ESrc.v x::ESrc.v y::caps) (s.ext ys) (fun v s'=>v = .bool (p x y)∧s'=s.ext ys)):VCalls Try.prog 60 [.sl 0 (a.map ESrc.v),.sl 0 (b.map ESrc.v),.fn g caps] s (fun v s'=>v = .bool (same p a b)∧s'=s):=by
 refine VCalls.wf fun hwf=>?_
 obtain ⟨h1,h2⟩:=wf_len2 hwf
 rw [List.length_map] at h1 h2
 refine LCalls.pure Try.func60 rfl (by kernel_rfl) (by simp) ?_
 by_cases hnn:¬ (a.length:Int)=b.length
 · skip
   repeat' first |(refine kOps ?_;first |(refine LOps.nil ?_) |(refine LOps.ev tT_ok rfl ?_) |(refine kLen ?_;first |(refine LOps.ans (AnsL.lenM tT_ok rfl rfl rfl) ?_))) |(refine kWL ?_;first |(refine WL.seq ?_) |(refine WL.region (by kernel_rfl) ?_) |(refine WL.ret ?_) |(refine kCond ?_;first |(refine WL.condT' rfl ?_ ?_;(focus (first |(simp <;> omega)))))) |(refine lthen_n ?_) |(refine lthen_r ?_) |(refine LPost.r1 (r := .tmp 6) (.inl rfl) (Res1.tmp rfl) ?_) |(refine PureR.mk ?_)
   rw [same_ne hnn];rfl
 have hne:(a.length:Int)=b.length:=by omega
 repeat' first |(refine kOps ?_;first |(refine LOps.nil ?_) |(refine LOps.ev tT_ok rfl ?_) |(refine kLen ?_;first |(refine LOps.ans (AnsL.lenM tT_ok rfl rfl rfl) ?_))) |(refine kWL ?_;first |(refine WL.seq ?_) |(refine WL.region (by kernel_rfl) ?_) |(refine WL.block ?_) |(refine WL.skip ?_) |(refine kCond ?_;first |(refine WL.condF' rfl ?_ ?_;(focus (first |(simp <;> omega)))))) |(refine lthen_n ?_)
 refine WL.loopD (fun i:Nat=>a.length - i) (fun i=>[(1,.sl 0 (b.map ESrc.v)),(2,.fn g caps),(15,.sl 0 (a.map ESrc.v)),(16,.int .i64 a.length),(17,.int .i64 (i:Int))]) (fun i=>[])
   (fun i=>i≤a.length∧same p a b=eqAll p (a.drop i) (b.drop i)) 0 0 ⟨by omega,same_eq hne⟩ (fun _=>rfl) ⟨rfl,rfl,rfl,rfl,rfl,trivial⟩ rfl (fun i hi=>?_) (fun i hi=>?_)
 · refine ⟨?_, rfl⟩
   simp only [UnderK,List.all_cons,List.all_nil,Bool.and_true,Bool.and_eq_true]
   refine ⟨under_dat (plain_dat _ (plain_SourceS _)),hcd,under_dat (plain_dat _ (plain_SourceS _)),rfl,rfl⟩
 obtain ⟨hi,hc⟩:=hi
 rcases Nat.lt_or_ge i a.length with hlt | hge
 · have hlt2 : i < b.length := by omega
   have hga:(a.map ESrc.v)[i]?=some (ESrc.v a[i]):=by rw [List.getElem?_map,List.getElem?_eq_getElem hlt];rfl
   have hgb:(b.map ESrc.v)[i]?=some (ESrc.v b[i]):=by rw [List.getElem?_map,List.getElem?_eq_getElem hlt2];rfl
   rw [eqAll_drop hlt hlt2] at hc
   have hE:=hp1 a[i] (List.getElem_mem hlt) b[i] (List.getElem_mem hlt2)
   cases hp:p a[i] b[i]
   all_goals rw [hp] at hE
   · skip
     repeat' first |(refine kOps ?_;first |(refine LOps.nil ?_) |(refine kStore ?_;refine LOps.storeP tT_ok rfl rfl rfl rfl rfl rfl rfl rfl rfl ?_) |(refine LOps.ev tT_ok rfl ?_) |(refine kAlloc ?_;refine LOps.alloc tT_ok rfl rfl rfl rfl ?_) |(refine kLoad ?_;first |(refine LOps.ans (AnsL.loadP tT_ok rfl rfl rfl rfl) ?_)) |(refine kIdx ?_;first |(refine LOps.ans (AnsL.idx tT_ok rfl rfl rfl rfl rfl hga rfl rfl) ?_) |(refine LOps.ans (AnsL.idx tT_ok rfl rfl rfl rfl rfl hgb rfl rfl) ?_)) |(refine kCall ?_;first |(refine LOps.ans (AnsL.callP rfl rfl rfl (hg) (hE _)) ?_))) |(refine kWL ?_;first |(refine WL.seq ?_) |(refine WL.region (by kernel_rfl) ?_) |(refine WL.block ?_) |(refine WL.skip ?_) |(refine WL.ret ?_) |(refine kCond ?_;first |(refine WL.condT rfl ?_) |(refine WL.condT' rfl ?_ ?_;(focus (first |(simp <;> omega)))))) |(refine lthen_n ?_) |(refine lthen_r ?_) |(refine lblock_r ?_) |(refine lbackD_r ?_) |(refine LPost.r1 (r := .tmp 6) (.inl rfl) (Res1.tmp rfl) ?_) |(refine PureR.mk ?_)
     all_goals simp_all
   · skip
     repeat' first |(refine kOps ?_;first |(refine LOps.nil ?_) |(refine kStore ?_;refine LOps.storeP tT_ok rfl rfl rfl rfl rfl rfl rfl rfl rfl ?_) |(refine LOps.ev tT_ok rfl ?_) |(refine kAlloc ?_;refine LOps.alloc tT_ok rfl rfl rfl rfl ?_) |(refine kLoad ?_;first |(refine LOps.ans (AnsL.loadP tT_ok rfl rfl rfl rfl) ?_)) |(refine kBin ?_;first |(refine LOps.ans (AnsL.add rfl rfl ?_) ?_;(focus (constructor <;> omega)))) |(refine kIdx ?_;first |(refine LOps.ans (AnsL.idx tT_ok rfl rfl rfl rfl rfl hga rfl rfl) ?_) |(refine LOps.ans (AnsL.idx tT_ok rfl rfl rfl rfl rfl hgb rfl rfl) ?_)) |(refine kCall ?_;first |(refine LOps.ans (AnsL.callP rfl rfl rfl (hg) (hE _)) ?_))) |(refine kWL ?_;first |(refine WL.seq ?_) |(refine WL.region (by kernel_rfl) ?_) |(refine WL.block ?_) |(refine WL.skip ?_) |(refine kCond ?_;first |(refine WL.condF rfl ?_) |(refine WL.condT' rfl ?_ ?_;(focus (first |(simp <;> omega)))))) |(refine lthen_n ?_) |(refine lblock_n ?_)
     all_goals
       refine lbackD.of (i+1) ?_ ?_ ?_ ?_
       · first | omega |(refine ⟨?_,?_⟩;(focus (first | omega |(simp;omega)));(first | omega |(simp_all [hc,hp] <;> fail) |(simp_all [hc,hp];omega))) |(simp_all [hc,hp] <;> fail) |(simp_all [hc,hp];omega)
       · first | omega |(simp;omega) | simp_all
       · repeat' first
           | exact SubL.nil
           |(refine SubL.mk rfl ?_ ?_)
           | rfl
           |(simp [hc,hp] <;> fail)
           |(simp [hc,hp];omega)
       · first | rfl |(simp [hc,hp] <;> fail) |(simp [hc,hp];omega)
 · rw [eqAll_end hge] at hc
   repeat' first |(refine kOps ?_;first |(refine LOps.nil ?_) |(refine LOps.ev tT_ok rfl ?_)) |(refine kWL ?_;first |(refine WL.seq ?_) |(refine WL.region (by kernel_rfl) ?_) |(refine WL.exit ?_) |(refine WL.ret ?_) |(refine kCond ?_;first |(refine WL.condF' rfl ?_ ?_;(focus (first |(simp <;> omega)))))) |(refine lthen_n ?_) |(refine lthen_e ?_) |(refine lblock_e ?_) |(refine lbackD_e ?_) |(refine LPost.r1 (r := .tmp 6) (.inl rfl) (Res1.tmp rfl) ?_) |(refine PureR.mk ?_)
   rw [hc];rfl
theorem equalFuncEO_v (a b:List (EE × Bool)) (s:S) (p:(EE × Bool)→(EE × Bool)→Bool) (g:FuncId) (caps:List V) (hg:CallOk Try.prog g) (hcd:V.underL s.next caps=true) (hp1:∀ x,x∈a→∀ y,y∈b→∀ ys,VCalls Try.prog g (EE.sv x::EE.sv y::caps) (s.ext ys) (fun v s'=>v = .bool (p x y)∧s'=s.ext ys)):VCalls Try.prog 61 [.sl 0 (a.map EE.sv),.sl 0 (b.map EE.sv),.fn g caps] s (fun v s'=>v = .bool (same p a b)∧s'=s):=by
 refine VCalls.wf fun hwf=>?_
 obtain ⟨h1,h2⟩:=wf_len2 hwf
 rw [List.length_map] at h1 h2
 refine LCalls.pure Try.func61 rfl (by kernel_rfl) (by simp) ?_
 by_cases hnn:¬ (a.length:Int)=b.length
 · skip
   repeat' first |(refine kOps ?_;first |(refine LOps.nil ?_) |(refine LOps.ev tT_ok rfl ?_) |(refine kLen ?_;first |(refine LOps.ans (AnsL.lenM tT_ok rfl rfl rfl) ?_))) |(refine kWL ?_;first |(refine WL.seq ?_) |(refine WL.region (by kernel_rfl) ?_) |(refine WL.ret ?_) |(refine kCond ?_;first |(refine WL.condT' rfl ?_ ?_;(focus (first |(simp <;> omega)))))) |(refine lthen_n ?_) |(refine lthen_r ?_) |(refine LPost.r1 (r := .tmp 6) (.inl rfl) (Res1.tmp rfl) ?_) |(refine PureR.mk ?_)
   rw [same_ne hnn];rfl
 have hne:(a.length:Int)=b.length:=by omega
 repeat' first |(refine kOps ?_;first |(refine LOps.nil ?_) |(refine LOps.ev tT_ok rfl ?_) |(refine kLen ?_;first |(refine LOps.ans (AnsL.lenM tT_ok rfl rfl rfl) ?_))) |(refine kWL ?_;first |(refine WL.seq ?_) |(refine WL.region (by kernel_rfl) ?_) |(refine WL.block ?_) |(refine WL.skip ?_) |(refine kCond ?_;first |(refine WL.condF' rfl ?_ ?_;(focus (first |(simp <;> omega)))))) |(refine lthen_n ?_)
 refine WL.loopD (fun i:Nat=>a.length - i) (fun i=>[(1,.sl 0 (b.map EE.sv)),(2,.fn g caps),(15,.sl 0 (a.map EE.sv)),(16,.int .i64 a.length),(17,.int .i64 (i:Int))]) (fun i=>[])
   (fun i=>i≤a.length∧same p a b=eqAll p (a.drop i) (b.drop i)) 0 0 ⟨by omega,same_eq hne⟩ (fun _=>rfl) ⟨rfl,rfl,rfl,rfl,rfl,trivial⟩ rfl (fun i hi=>?_) (fun i hi=>?_)
 · refine ⟨?_, rfl⟩
   simp only [UnderK,List.all_cons,List.all_nil,Bool.and_true,Bool.and_eq_true]
   refine ⟨under_dat (plain_dat _ (plain_SortKeyS _)),hcd,under_dat (plain_dat _ (plain_SortKeyS _)),rfl,rfl⟩
 obtain ⟨hi,hc⟩:=hi
 rcases Nat.lt_or_ge i a.length with hlt | hge
 · have hlt2 : i < b.length := by omega
   have hga:(a.map EE.sv)[i]?=some (EE.sv a[i]):=by rw [List.getElem?_map,List.getElem?_eq_getElem hlt];rfl
   have hgb:(b.map EE.sv)[i]?=some (EE.sv b[i]):=by rw [List.getElem?_map,List.getElem?_eq_getElem hlt2];rfl
   rw [eqAll_drop hlt hlt2] at hc
   have hE:=hp1 a[i] (List.getElem_mem hlt) b[i] (List.getElem_mem hlt2)
   cases hp:p a[i] b[i]
   all_goals rw [hp] at hE
   · skip
     repeat' first |(refine kOps ?_;first |(refine LOps.nil ?_) |(refine kStore ?_;refine LOps.storeP tT_ok rfl rfl rfl rfl rfl rfl rfl rfl rfl ?_) |(refine LOps.ev tT_ok rfl ?_) |(refine kAlloc ?_;refine LOps.alloc tT_ok rfl rfl rfl rfl ?_) |(refine kLoad ?_;first |(refine LOps.ans (AnsL.loadP tT_ok rfl rfl rfl rfl) ?_)) |(refine kIdx ?_;first |(refine LOps.ans (AnsL.idx tT_ok rfl rfl rfl rfl rfl hga rfl rfl) ?_) |(refine LOps.ans (AnsL.idx tT_ok rfl rfl rfl rfl rfl hgb rfl rfl) ?_)) |(refine kCall ?_;first |(refine LOps.ans (AnsL.callP rfl rfl rfl (hg) (hE _)) ?_))) |(refine kWL ?_;first |(refine WL.seq ?_) |(refine WL.region (by kernel_rfl) ?_) |(refine WL.block ?_) |(refine WL.skip ?_) |(refine WL.ret ?_) |(refine kCond ?_;first |(refine WL.condT rfl ?_) |(refine WL.condT' rfl ?_ ?_;(focus (first |(simp <;> omega)))))) |(refine lthen_n ?_) |(refine lthen_r ?_) |(refine lblock_r ?_) |(refine lbackD_r ?_) |(refine LPost.r1 (r := .tmp 6) (.inl rfl) (Res1.tmp rfl) ?_) |(refine PureR.mk ?_)
     all_goals simp_all
   · skip
     repeat' first |(refine kOps ?_;first |(refine LOps.nil ?_) |(refine kStore ?_;refine LOps.storeP tT_ok rfl rfl rfl rfl rfl rfl rfl rfl rfl ?_) |(refine LOps.ev tT_ok rfl ?_) |(refine kAlloc ?_;refine LOps.alloc tT_ok rfl rfl rfl rfl ?_) |(refine kLoad ?_;first |(refine LOps.ans (AnsL.loadP tT_ok rfl rfl rfl rfl) ?_)) |(refine kBin ?_;first |(refine LOps.ans (AnsL.add rfl rfl ?_) ?_;(focus (constructor <;> omega)))) |(refine kIdx ?_;first |(refine LOps.ans (AnsL.idx tT_ok rfl rfl rfl rfl rfl hga rfl rfl) ?_) |(refine LOps.ans (AnsL.idx tT_ok rfl rfl rfl rfl rfl hgb rfl rfl) ?_)) |(refine kCall ?_;first |(refine LOps.ans (AnsL.callP rfl rfl rfl (hg) (hE _)) ?_))) |(refine kWL ?_;first |(refine WL.seq ?_) |(refine WL.region (by kernel_rfl) ?_) |(refine WL.block ?_) |(refine WL.skip ?_) |(refine kCond ?_;first |(refine WL.condF rfl ?_) |(refine WL.condT' rfl ?_ ?_;(focus (first |(simp <;> omega)))))) |(refine lthen_n ?_) |(refine lblock_n ?_)
     all_goals
       refine lbackD.of (i+1) ?_ ?_ ?_ ?_
       · first | omega |(refine ⟨?_,?_⟩;(focus (first | omega |(simp;omega)));(first | omega |(simp_all [hc,hp] <;> fail) |(simp_all [hc,hp];omega))) |(simp_all [hc,hp] <;> fail) |(simp_all [hc,hp];omega)
       · first | omega |(simp;omega) | simp_all
       · repeat' first
           | exact SubL.nil
           |(refine SubL.mk rfl ?_ ?_)
           | rfl
           |(simp [hc,hp] <;> fail)
           |(simp [hc,hp];omega)
       · first | rfl |(simp [hc,hp] <;> fail) |(simp [hc,hp];omega)
 · rw [eqAll_end hge] at hc
   repeat' first |(refine kOps ?_;first |(refine LOps.nil ?_) |(refine LOps.ev tT_ok rfl ?_)) |(refine kWL ?_;first |(refine WL.seq ?_) |(refine WL.region (by kernel_rfl) ?_) |(refine WL.exit ?_) |(refine WL.ret ?_) |(refine kCond ?_;first |(refine WL.condF' rfl ?_ ?_;(focus (first |(simp <;> omega)))))) |(refine lthen_n ?_) |(refine lthen_e ?_) |(refine lblock_e ?_) |(refine lbackD_e ?_) |(refine LPost.r1 (r := .tmp 6) (.inl rfl) (Res1.tmp rfl) ?_) |(refine PureR.mk ?_)
   rw [hc];rfl
theorem equalFuncEQ_v (a b:List EQ) (s:S) (p:EQ→EQ→Bool) (g:FuncId) (caps:List V) (hg:CallOk Try.prog g) (hcd:V.underL s.next caps=true) (hp1:∀ x,x∈a→∀ y,y∈b→∀ ys,VCalls Try.prog g (EQ.v x::EQ.v y::caps) (s.ext ys) (fun v s'=>v = .bool (p x y)∧s'=s.ext ys)):VCalls Try.prog 30 [.sl 0 (a.map EE.queryV),.sl 0 (b.map EE.queryV),.fn g caps] s (fun v s'=>v = .bool (same p a b)∧s'=s):=by
 refine VCalls.wf fun hwf=>?_
 obtain ⟨h1,h2⟩:=wf_len2 hwf
 rw [List.length_map] at h1 h2
 refine LCalls.pure Try.func30 rfl (by kernel_rfl) (by simp) ?_
 by_cases hnn:¬ (a.length:Int)=b.length
 · skip
   repeat' first |(refine kOps ?_;first |(refine LOps.nil ?_) |(refine LOps.ev tT_ok rfl ?_) |(refine kLen ?_;first |(refine LOps.ans (AnsL.lenM tT_ok rfl rfl rfl) ?_))) |(refine kWL ?_;first |(refine WL.seq ?_) |(refine WL.region (by kernel_rfl) ?_) |(refine WL.ret ?_) |(refine kCond ?_;first |(refine WL.condT' rfl ?_ ?_;(focus (first |(simp <;> omega)))))) |(refine lthen_n ?_) |(refine lthen_r ?_) |(refine LPost.r1 (r := .tmp 6) (.inl rfl) (Res1.tmp rfl) ?_) |(refine PureR.mk ?_)
   rw [same_ne hnn];rfl
 have hne:(a.length:Int)=b.length:=by omega
 repeat' first |(refine kOps ?_;first |(refine LOps.nil ?_) |(refine LOps.ev tT_ok rfl ?_) |(refine kLen ?_;first |(refine LOps.ans (AnsL.lenM tT_ok rfl rfl rfl) ?_))) |(refine kWL ?_;first |(refine WL.seq ?_) |(refine WL.region (by kernel_rfl) ?_) |(refine WL.block ?_) |(refine WL.skip ?_) |(refine kCond ?_;first |(refine WL.condF' rfl ?_ ?_;(focus (first |(simp <;> omega)))))) |(refine lthen_n ?_)
 refine WL.loopD (fun i:Nat=>a.length - i) (fun i=>[(1,.sl 0 (b.map EE.queryV)),(2,.fn g caps),(15,.sl 0 (a.map EE.queryV)),(16,.int .i64 a.length),(17,.int .i64 (i:Int))]) (fun i=>[])
   (fun i=>i≤a.length∧same p a b=eqAll p (a.drop i) (b.drop i)) 0 0 ⟨by omega,same_eq hne⟩ (fun _=>rfl) ⟨rfl,rfl,rfl,rfl,rfl,trivial⟩ rfl (fun i hi=>?_) (fun i hi=>?_)
 · refine ⟨?_, rfl⟩
   simp only [UnderK,List.all_cons,List.all_nil,Bool.and_true,Bool.and_eq_true]
   refine ⟨under_dat (plain_dat _ (plain_QueryS _)),hcd,under_dat (plain_dat _ (plain_QueryS _)),rfl,rfl⟩
 obtain ⟨hi,hc⟩:=hi
 rcases Nat.lt_or_ge i a.length with hlt | hge
 · have hlt2 : i < b.length := by omega
   have hga:(a.map EE.queryV)[i]?=some (EQ.v a[i]):=by rw [List.getElem?_map,List.getElem?_eq_getElem hlt];simp only [Option.map_some,EE.queryV_eq]
   have hgb:(b.map EE.queryV)[i]?=some (EQ.v b[i]):=by rw [List.getElem?_map,List.getElem?_eq_getElem hlt2];simp only [Option.map_some,EE.queryV_eq]
   rw [eqAll_drop hlt hlt2] at hc
   have hE:=hp1 a[i] (List.getElem_mem hlt) b[i] (List.getElem_mem hlt2)
   cases hp:p a[i] b[i]
   all_goals rw [hp] at hE
   · skip
     repeat' first |(refine kOps ?_;first |(refine LOps.nil ?_) |(refine kStore ?_;refine LOps.storeP tT_ok rfl rfl rfl rfl rfl rfl rfl rfl rfl ?_) |(refine LOps.ev tT_ok rfl ?_) |(refine kAlloc ?_;refine LOps.alloc tT_ok rfl rfl rfl rfl ?_) |(refine kLoad ?_;first |(refine LOps.ans (AnsL.loadP tT_ok rfl rfl rfl rfl) ?_)) |(refine kIdx ?_;first |(refine LOps.ans (AnsL.idx tT_ok rfl rfl rfl rfl rfl hga rfl rfl) ?_) |(refine LOps.ans (AnsL.idx tT_ok rfl rfl rfl rfl rfl hgb rfl rfl) ?_)) |(refine kCall ?_;first |(refine LOps.ans (AnsL.callP rfl rfl rfl (hg) (hE _)) ?_))) |(refine kWL ?_;first |(refine WL.seq ?_) |(refine WL.region (by kernel_rfl) ?_) |(refine WL.block ?_) |(refine WL.skip ?_) |(refine WL.ret ?_) |(refine kCond ?_;first |(refine WL.condT rfl ?_) |(refine WL.condT' rfl ?_ ?_;(focus (first |(simp <;> omega)))))) |(refine lthen_n ?_) |(refine lthen_r ?_) |(refine lblock_r ?_) |(refine lbackD_r ?_) |(refine LPost.r1 (r := .tmp 6) (.inl rfl) (Res1.tmp rfl) ?_) |(refine PureR.mk ?_)
     all_goals simp_all
   · skip
     repeat' first |(refine kOps ?_;first |(refine LOps.nil ?_) |(refine kStore ?_;refine LOps.storeP tT_ok rfl rfl rfl rfl rfl rfl rfl rfl rfl ?_) |(refine LOps.ev tT_ok rfl ?_) |(refine kAlloc ?_;refine LOps.alloc tT_ok rfl rfl rfl rfl ?_) |(refine kLoad ?_;first |(refine LOps.ans (AnsL.loadP tT_ok rfl rfl rfl rfl) ?_)) |(refine kBin ?_;first |(refine LOps.ans (AnsL.add rfl rfl ?_) ?_;(focus (constructor <;> omega)))) |(refine kIdx ?_;first |(refine LOps.ans (AnsL.idx tT_ok rfl rfl rfl rfl rfl hga rfl rfl) ?_) |(refine LOps.ans (AnsL.idx tT_ok rfl rfl rfl rfl rfl hgb rfl rfl) ?_)) |(refine kCall ?_;first |(refine LOps.ans (AnsL.callP rfl rfl rfl (hg) (hE _)) ?_))) |(refine kWL ?_;first |(refine WL.seq ?_) |(refine WL.region (by kernel_rfl) ?_) |(refine WL.block ?_) |(refine WL.skip ?_) |(refine kCond ?_;first |(refine WL.condF rfl ?_) |(refine WL.condT' rfl ?_ ?_;(focus (first |(simp <;> omega)))))) |(refine lthen_n ?_) |(refine lblock_n ?_)
     all_goals
       refine lbackD.of (i+1) ?_ ?_ ?_ ?_
       · first | omega |(refine ⟨?_,?_⟩;(focus (first | omega |(simp;omega)));(first | omega |(simp_all [hc,hp] <;> fail) |(simp_all [hc,hp];omega))) |(simp_all [hc,hp] <;> fail) |(simp_all [hc,hp];omega)
       · first | omega |(simp;omega) | simp_all
       · repeat' first
           | exact SubL.nil
           |(refine SubL.mk rfl ?_ ?_)
           | rfl
           |(simp [hc,hp] <;> fail)
           |(simp [hc,hp];omega)
       · first | rfl |(simp [hc,hp] <;> fail) |(simp [hc,hp];omega)
 · rw [eqAll_end hge] at hc
   repeat' first |(refine kOps ?_;first |(refine LOps.nil ?_) |(refine LOps.ev tT_ok rfl ?_)) |(refine kWL ?_;first |(refine WL.seq ?_) |(refine WL.region (by kernel_rfl) ?_) |(refine WL.exit ?_) |(refine WL.ret ?_) |(refine kCond ?_;first |(refine WL.condF' rfl ?_ ?_;(focus (first |(simp <;> omega)))))) |(refine lthen_n ?_) |(refine lthen_e ?_) |(refine lblock_e ?_) |(refine lbackD_e ?_) |(refine LPost.r1 (r := .tmp 6) (.inl rfl) (Res1.tmp rfl) ?_) |(refine PureR.mk ?_)
   rw [hc];rfl
def SameE (P:Program) (g:FuncId) (x:EE):Prop:=∀ (y:EE) (s:S),VCalls P g [x.v,y.v] s (fun v s'=>v = .bool (x.eqB y)∧s'=s)
theorem sameExprs_v (a b:List EE) (ih:∀ x∈a,SameE Try.prog 11 x) (s:S):VCalls Try.prog 29 [.sl 0 (a.map EE.toV),.sl 0 (b.map EE.toV)] s (fun v s'=>v = .bool (same EE.eqB a b)∧s'=s):=by
 refine LCalls.pure Try.func29 rfl (by kernel_rfl) (by simp) ?_
 repeat' first |(refine kOps ?_;first |(refine LOps.nil ?_) |(refine LOps.ev tT_ok rfl ?_) |(refine kCallN 55 ?_;first |(refine LOps.ans (AnsL.callP rfl rfl rfl (ok55) (equalFuncEE_v _ _ _ EE.eqB _ [] ok11 rfl ?_)) ?_;(focus (exact fun x hx y _ ys=>ih x hx y _))))) |(refine kWL ?_;first |(refine WL.seq ?_) |(refine WL.region (by kernel_rfl) ?_) |(refine WL.ret ?_)) |(refine lthen_n ?_) |(refine LPost.r1 (r := .tmp 4) (.inl rfl) (Res1.tmp rfl) ?_) |(refine PureR.mk ?_)
 rfl
theorem sameItem_v (x y:EItem) (ih:SameE Try.prog 11 x.e) (s:S):VCalls Try.prog 56 [EItem.v x,EItem.v y] s (fun v s'=>v = .bool (EE.eqI x y)∧s'=s):=by
 rw [EE.eqI_eq]
 refine LCalls.pure Try.func56 rfl (by kernel_rfl) (by simp) ?_
 repeat' first |(refine kOps ?_;first |(refine LOps.nil ?_) |(refine kG ?_;first |(refine LOps.gT rfl rfl rfl ?_) |(refine LOps.gF rfl rfl rfl ?_) |(refine LOps.gC rfl rfl rfl (fun h=>?_) (fun h=>?_))) |(refine LOps.ev tT_ok rfl ?_) |(refine kBox ?_;refine LOps.box rfl rfl rfl rfl ?_) |(refine kLoad ?_;first |(refine LOps.ans (AnsL.loadP tT_ok rfl rfl rfl rfl) ?_)) |(refine kCallN 11 ?_;first |(refine LOps.ans (AnsL.callP rfl rfl rfl (ok11) (ih _ _)) ?_))) |(refine kWL ?_;first |(refine WL.seq ?_) |(refine WL.region (by kernel_rfl) ?_) |(refine WL.ret ?_)) |(refine lthen_n ?_) |(refine LPost.r1 (r := .tmp 4) (.inl rfl) (Res1.tmp rfl) ?_) |(refine PureR.mk ?_)
 all_goals simp_all
theorem sameSource_v (x y:ESrc) (ih:∀ k∈x.on,SameE Try.prog 11 k) (s:S):VCalls Try.prog 57 [ESrc.v x,ESrc.v y] s (fun v s'=>v = .bool (EE.eqF x y)∧s'=s):=by
 rw [EE.eqF_eq]
 refine LCalls.pure Try.func57 rfl (by kernel_rfl) (by simp) ?_
 repeat' first |(refine kOps ?_;first |(refine LOps.nil ?_) |(refine kG ?_;first |(refine LOps.gT rfl rfl rfl ?_) |(refine LOps.gF rfl rfl rfl ?_) |(refine LOps.gC rfl rfl rfl (fun h=>?_) (fun h=>?_))) |(refine LOps.ev tT_ok rfl ?_) |(refine kBox ?_;refine LOps.box rfl rfl rfl rfl ?_) |(refine kLoad ?_;first |(refine LOps.ans (AnsL.loadP tT_ok rfl rfl rfl rfl) ?_)) |(refine kCallN 29 ?_;first |(refine LOps.ans (AnsL.callP rfl rfl rfl (ok29) (sameExprs_v x.on y.on ih _)) ?_))) |(refine kWL ?_;first |(refine WL.seq ?_) |(refine WL.region (by kernel_rfl) ?_) |(refine WL.ret ?_)) |(refine lthen_n ?_) |(refine LPost.r1 (r := .tmp 4) (.inl rfl) (Res1.tmp rfl) ?_) |(refine PureR.mk ?_)
 all_goals simp_all
theorem sameKey_v (x y:EE × Bool) (ih:SameE Try.prog 11 x.1) (s:S):VCalls Try.prog 58 [EE.sv x,EE.sv y] s (fun v s'=>v = .bool (EE.eqO x y)∧s'=s):=by
 rw [EE.eqO_eq]
 refine LCalls.pure Try.func58 rfl (by kernel_rfl) (by simp) ?_
 repeat' first |(refine kOps ?_;first |(refine LOps.nil ?_) |(refine kG ?_;first |(refine LOps.gT rfl rfl rfl ?_) |(refine LOps.gF rfl rfl rfl ?_) |(refine LOps.gC rfl rfl rfl (fun h=>?_) (fun h=>?_))) |(refine LOps.ev tT_ok rfl ?_) |(refine kBox ?_;refine LOps.box rfl rfl rfl rfl ?_) |(refine kLoad ?_;first |(refine LOps.ans (AnsL.loadP tT_ok rfl rfl rfl rfl) ?_)) |(refine kCallN 11 ?_;first |(refine LOps.ans (AnsL.callP rfl rfl rfl (ok11) (ih _ _)) ?_))) |(refine kWL ?_;first |(refine WL.seq ?_) |(refine WL.region (by kernel_rfl) ?_) |(refine WL.ret ?_)) |(refine lthen_n ?_) |(refine LPost.r1 (r := .tmp 4) (.inl rfl) (Res1.tmp rfl) ?_) |(refine PureR.mk ?_)
 all_goals simp_all
theorem sameQuery_r (p q:EQ) (ih:∀ k∈p.parts,SameE Try.prog 11 k) (s:S):VCalls Try.prog 31 [p.v,q.v] s (fun v s'=>v = .bool (EE.eqQ p q)∧s'=s):=by
 rw [EE.eqQ_eq]
 refine VCalls.wf fun hwf=>?_
 simp only [EQ.v,List.all_cons,List.all_nil,V.wf,V.wfL,Bool.and_true,Bool.and_eq_true,decide_eq_true_eq,List.length_map,maxLen] at hwf
 refine LCalls.pure Try.func31 rfl (by kernel_rfl) (by simp) ?_
 repeat' first |(refine kOps ?_;first |(refine LOps.nil ?_) |(refine kG ?_;first |(refine LOps.gT rfl rfl rfl ?_) |(refine LOps.gF rfl rfl rfl ?_) |(refine LOps.gC rfl rfl rfl (fun h=>?_) (fun h=>?_))) |(refine LOps.ev tT_ok rfl ?_) |(refine kBox ?_;refine LOps.box rfl rfl rfl rfl ?_) |(refine kLoad ?_;first |(refine LOps.ans (AnsL.loadP tT_ok rfl rfl rfl rfl) ?_)) |(refine kCallN 29 ?_;first |(refine LOps.ans (AnsL.callP rfl rfl rfl (ok29) (sameExprs_v p.wher q.wher ?_ _)) ?_;(focus (exact fun k hk=>ih k (QueryOf.mem_wher hk))))) |(refine kCallN 59 ?_;first |(refine LOps.ans (AnsL.callP rfl rfl rfl (ok59) (equalFuncEI_v _ _ _ EE.eqI _ [] ok56 rfl ?_)) ?_;(focus (exact fun x hx y _ ys=>sameItem_v x y (ih _ (QueryOf.mem_items hx)) _)))) |(refine kCallN 60 ?_;first |(refine LOps.ans (AnsL.callP rfl rfl rfl (ok60) (equalFuncEF_v _ _ _ EE.eqF _ [] ok57 rfl ?_)) ?_;(focus (exact fun x hx y _ ys=>sameSource_v x y (fun k hk=>ih k (QueryOf.mem_src hx hk)) _)))) |(refine kCallN 61 ?_;first |(refine LOps.ans (AnsL.callP rfl rfl rfl (ok61) (equalFuncEO_v _ _ _ EE.eqO _ [] ok58 rfl ?_)) ?_;(focus (exact fun x hx y _ ys=>sameKey_v x y (ih _ (QueryOf.mem_order hx)) _))))) |(refine kWL ?_;first |(refine WL.seq ?_) |(refine WL.region (by kernel_rfl) ?_) |(refine WL.ret ?_)) |(refine lthen_n ?_) |(refine LPost.r1 (r := .tmp 4) (.inl rfl) (Res1.tmp rfl) ?_) |(refine PureR.mk ?_)
 all_goals simp_all
theorem implSameExpr_c (x:EE):SameE Try.prog 11 x:=by
 induction x using EE.ind with
 | h x ih1 ih2 =>
   intro y s
   rw [EE.eqB_eq]
   refine LCalls.pure Try.func11 rfl (by kernel_rfl) (by simp) ?_
   repeat' first |(refine kOps ?_;first |(refine LOps.nil ?_) |(refine kG ?_;first |(refine LOps.gT rfl rfl rfl ?_) |(refine LOps.gF rfl rfl rfl ?_) |(refine LOps.gC rfl rfl rfl (fun h=>?_) (fun h=>?_))) |(refine LOps.ev tT_ok rfl ?_) |(refine kBox ?_;refine LOps.box rfl rfl rfl rfl ?_) |(refine kLoad ?_;first |(refine LOps.ans (AnsL.loadP tT_ok rfl rfl rfl rfl) ?_)) |(refine kCallN 29 ?_;first |(refine LOps.ans (AnsL.callP rfl rfl rfl (ok29) (sameExprs_v x.kids y.kids ih1 _)) ?_)) |(refine kCallN 30 ?_;first |(refine LOps.ans (AnsL.callP rfl rfl rfl (ok30) (equalFuncEQ_v _ _ _ EE.eqQ _ [] ok31 rfl ?_)) ?_;(focus (exact fun p hp q _ ys=>sameQuery_r p q (ih2 p hp) _))))) |(refine kWL ?_;first |(refine WL.seq ?_) |(refine WL.region (by kernel_rfl) ?_) |(refine WL.ret ?_)) |(refine lthen_n ?_) |(refine LPost.r1 (r := .tmp 4) (.inl rfl) (Res1.tmp rfl) ?_) |(refine PureR.mk ?_)
   all_goals simp_all [valEq]
theorem specl7Same_v (a b:List EE) (s:S) (ih:∀ x∈a,SameE Try.prog 12 x):VCalls Try.prog 32 [.sl 0 (a.map EE.toV),.sl 0 (b.map EE.toV)] s (fun v s'=>v = .bool (same EE.eqB a b)∧s'=s):=by
 refine VCalls.wf fun hwf=>?_
 obtain ⟨h1,h2⟩:=wf_len2 hwf
 rw [List.length_map] at h1 h2
 refine LCalls.pure Try.func32 rfl (by kernel_rfl) (by simp) ?_
 by_cases hnn:¬ (a.length:Int)=b.length
 · skip
   repeat' first |(refine kOps ?_;first |(refine LOps.nil ?_) |(refine LOps.ev tT_ok rfl ?_) |(refine kLen ?_;first |(refine LOps.ans (AnsL.lenM tT_ok rfl rfl rfl) ?_))) |(refine kWL ?_;first |(refine WL.seq ?_) |(refine WL.region (by kernel_rfl) ?_) |(refine WL.ret ?_) |(refine kCond ?_;first |(refine WL.condT' rfl ?_ ?_;(focus (first |(simp <;> omega)))))) |(refine lthen_n ?_) |(refine lthen_r ?_) |(refine LPost.r1 (r := .tmp 4) (.inl rfl) (Res1.tmp rfl) ?_) |(refine PureR.mk ?_)
   rw [same_ne hnn];rfl
 have hne:(a.length:Int)=b.length:=by omega
 repeat' first |(refine kOps ?_;first |(refine LOps.nil ?_) |(refine LOps.ev tT_ok rfl ?_) |(refine kLen ?_;first |(refine LOps.ans (AnsL.lenM tT_ok rfl rfl rfl) ?_))) |(refine kWL ?_;first |(refine WL.seq ?_) |(refine WL.region (by kernel_rfl) ?_) |(refine WL.block ?_) |(refine WL.skip ?_) |(refine kCond ?_;first |(refine WL.condF' rfl ?_ ?_;(focus (first |(simp <;> omega)))))) |(refine lthen_n ?_)
 refine WL.loopD (fun i:Nat=>a.length - i) (fun i=>[(0,.sl 0 (a.map EE.toV)),(1,.sl 0 (b.map EE.toV)),(5,.int .i64 (i:Int))]) (fun i=>[])
   (fun i=>i≤a.length∧same EE.eqB a b=eqAll EE.eqB (a.drop i) (b.drop i)) 0 0 ⟨by omega,same_eq hne⟩ (fun _=>rfl) ⟨rfl,rfl,rfl,trivial⟩ rfl (fun i hi=>?_) (fun i hi=>?_)
 · refine ⟨?_, rfl⟩
   simp only [UnderK,List.all_cons,List.all_nil,Bool.and_true,Bool.and_eq_true]
   refine ⟨under_dat (plain_dat _ (plain_ExprS _)),under_dat (plain_dat _ (plain_ExprS _)),rfl⟩
 obtain ⟨hi,hc⟩:=hi
 rcases Nat.lt_or_ge i a.length with hlt | hge
 · have hlt2 : i < b.length := by omega
   have hga:(a.map EE.toV)[i]?=some (EE.v a[i]):=by rw [List.getElem?_map,List.getElem?_eq_getElem hlt];simp only [Option.map_some,EE.toV_eq]
   have hgb:(b.map EE.toV)[i]?=some (EE.v b[i]):=by rw [List.getElem?_map,List.getElem?_eq_getElem hlt2];simp only [Option.map_some,EE.toV_eq]
   rw [eqAll_drop hlt hlt2] at hc
   have hE:=ih a[i] (List.getElem_mem hlt) b[i]
   cases hp:EE.eqB a[i] b[i]
   all_goals rw [hp] at hE
   · skip
     repeat' first |(refine kOps ?_;first |(refine LOps.nil ?_) |(refine LOps.ev tT_ok rfl ?_) |(refine kLen ?_;first |(refine LOps.ans (AnsL.lenM tT_ok rfl rfl rfl) ?_))) |(refine kWL ?_;first |(refine WL.seq ?_) |(refine WL.region (by kernel_rfl) ?_) |(refine WL.drawn (id:=6) [0,1,2,3,4,5,6,7,8,9] [] [[],[],[0,1],[0,1,2],[],[],[4,5],[4,5,6],[0,1,2,3,4,5,6,7],[0,1,2,3,4,5,6,7,8]] (by kernel_rfl) (by kernel_rfl) ?_) |(refine WL.block ?_) |(refine WL.skip ?_) |(refine WL.ret ?_) |(refine kCond ?_;first |(refine WL.condT rfl ?_) |(refine WL.condT' rfl ?_ ?_;(focus (first |(simp <;> omega)))))) |(refine kDr ?_;first |(refine LDr.nil ?_) |(refine LDr.fl rfl rfl (.ev tT_ok rfl) ?_) |(refine kDIdx rfl ?_;first |(refine LDr.fl rfl rfl (AnsL.idx tT_ok rfl rfl rfl rfl rfl hga rfl rfl) ?_) |(refine LDr.fl rfl rfl (AnsL.idx tT_ok rfl rfl rfl rfl rfl hgb rfl rfl) ?_)) |(refine kDCallN 12 rfl ?_;first |(refine LDr.fl rfl rfl (AnsL.callP rfl rfl rfl (ok12) (hE _)) ?_))) |(refine lthen_n ?_) |(refine lthen_r ?_) |(refine lblock_r ?_) |(refine lbackD_r ?_) |(refine LPost.r1 (r := .tmp 4) (.inl rfl) (Res1.tmp rfl) ?_) |(refine PureR.mk ?_)
     all_goals simp_all
   · skip
     repeat' first |(refine kOps ?_;first |(refine LOps.nil ?_) |(refine LOps.ev tT_ok rfl ?_) |(refine kLen ?_;first |(refine LOps.ans (AnsL.lenM tT_ok rfl rfl rfl) ?_)) |(refine kBin ?_;first |(refine LOps.ans (AnsL.add rfl rfl ?_) ?_;(focus (constructor <;> omega))))) |(refine kWL ?_;first |(refine WL.seq ?_) |(refine WL.region (by kernel_rfl) ?_) |(refine WL.drawn (id:=6) [0,1,2,3,4,5,6,7,8,9] [] [[],[],[0,1],[0,1,2],[],[],[4,5],[4,5,6],[0,1,2,3,4,5,6,7],[0,1,2,3,4,5,6,7,8]] (by kernel_rfl) (by kernel_rfl) ?_) |(refine WL.block ?_) |(refine WL.skip ?_) |(refine kCond ?_;first |(refine WL.condF rfl ?_) |(refine WL.condT' rfl ?_ ?_;(focus (first |(simp <;> omega)))))) |(refine kDr ?_;first |(refine LDr.nil ?_) |(refine LDr.fl rfl rfl (.ev tT_ok rfl) ?_) |(refine kDIdx rfl ?_;first |(refine LDr.fl rfl rfl (AnsL.idx tT_ok rfl rfl rfl rfl rfl hga rfl rfl) ?_) |(refine LDr.fl rfl rfl (AnsL.idx tT_ok rfl rfl rfl rfl rfl hgb rfl rfl) ?_)) |(refine kDCallN 12 rfl ?_;first |(refine LDr.fl rfl rfl (AnsL.callP rfl rfl rfl (ok12) (hE _)) ?_))) |(refine lthen_n ?_) |(refine lblock_n ?_)
     all_goals
       refine lbackD.of (i+1) ?_ ?_ ?_ ?_
       · first | omega |(refine ⟨?_,?_⟩;(focus (first | omega |(simp;omega)));(first | omega |(simp_all [hc,hp] <;> fail) |(simp_all [hc,hp];omega))) |(simp_all [hc,hp] <;> fail) |(simp_all [hc,hp];omega)
       · first | omega |(simp;omega) | simp_all
       · repeat' first
           | exact SubL.nil
           |(refine SubL.mk rfl ?_ ?_)
           | rfl
           |(simp [hc,hp] <;> fail)
           |(simp [hc,hp];omega)
       · first | rfl |(simp [hc,hp] <;> fail) |(simp [hc,hp];omega)
 · rw [eqAll_end hge] at hc
   repeat' first |(refine kOps ?_;first |(refine LOps.nil ?_) |(refine LOps.ev tT_ok rfl ?_) |(refine kLen ?_;first |(refine LOps.ans (AnsL.lenM tT_ok rfl rfl rfl) ?_))) |(refine kWL ?_;first |(refine WL.seq ?_) |(refine WL.region (by kernel_rfl) ?_) |(refine WL.exit ?_) |(refine WL.ret ?_) |(refine kCond ?_;first |(refine WL.condF' rfl ?_ ?_;(focus (first |(simp <;> omega)))))) |(refine lthen_n ?_) |(refine lthen_e ?_) |(refine lblock_e ?_) |(refine lbackD_e ?_) |(refine LPost.r1 (r := .tmp 4) (.inl rfl) (Res1.tmp rfl) ?_) |(refine PureR.mk ?_)
   rw [hc];rfl
theorem plainL_of' {id:Nat} {xs:List V} (h:V.plain (.sl id xs)=true):V.plainL xs=true:=by
 simp only [V.plain,Bool.and_eq_true] at h
 exact h.2
@[simp] theorem EE.under_S (n:Nat) (l:List EE):V.underL n (l.map EE.toV)=true:=underL_dat (plainL_dat _ (plainL_of' (plain_ExprS l)))
@[simp] theorem EE.under_I (n:Nat) (l:List EItem):V.underL n (l.map EItem.v)=true:=underL_dat (plainL_dat _ (plainL_of' (plain_ItemS l)))
@[simp] theorem EE.under_F (n:Nat) (l:List ESrc):V.underL n (l.map ESrc.v)=true:=underL_dat (plainL_dat _ (plainL_of' (plain_SourceS l)))
@[simp] theorem EE.under_O (n:Nat) (l:List (EE × Bool)):V.underL n (l.map EE.sv)=true:=underL_dat (plainL_dat _ (plainL_of' (plain_SortKeyS l)))
@[simp] theorem EE.under_Q (n:Nat) (l:List EQ):V.underL n (l.map EE.queryV)=true:=underL_dat (plainL_dat _ (plainL_of' (plain_QueryS l)))
set_option maxHeartbeats 2000000 in
theorem specSameQuery_r (p q:EQ) (ih:∀ k∈p.parts,SameE Try.prog 12 k) (s:S):VCalls Try.prog 33 [p.v,q.v] s (fun v s'=>v = .bool (EE.eqQ p q)∧s'=s):=by
 rw [EE.eqQ_eq]
 refine VCalls.wf fun hwf=>?_
 simp only [EQ.v,List.all_cons,List.all_nil,V.wf,V.wfL,Bool.and_true,Bool.and_eq_true,decide_eq_true_eq,List.length_map,maxLen] at hwf
 refine LCalls.pure Try.func33 rfl (by kernel_rfl) (by simp) ?_
 repeat' first |(refine kOps ?_;first |(refine LOps.nil ?_) |(refine kG ?_;first |(refine LOps.gT rfl rfl rfl ?_) |(refine LOps.gF rfl rfl rfl ?_) |(refine LOps.gC rfl rfl rfl (fun h=>?_) (fun h=>?_))) |(refine LOps.ev tT_ok rfl ?_) |(refine kBox ?_;refine LOps.box rfl rfl rfl rfl ?_) |(refine kLoad ?_;first |(refine LOps.ans (AnsL.loadP tT_ok rfl rfl rfl rfl) ?_)) |(refine kLen ?_;first |(refine LOps.ans (AnsL.lenM tT_ok rfl rfl rfl) ?_)) |(refine kCallN 32 ?_;first |(refine LOps.ans (AnsL.callP rfl rfl rfl (ok32) (specl7Same_v p.wher q.wher _ ?_)) ?_;(focus (exact fun k hk=>ih k (QueryOf.mem_wher hk)))))) |(refine kWL ?_;first |(refine WL.seq ?_) |(refine WL.region (by kernel_rfl) ?_) |(refine WL.block ?_) |(refine WL.skip ?_) |(refine WL.ret ?_) |(refine kCond ?_;first |(refine WL.condT rfl ?_) |(refine WL.cond rfl (fun h=>?_) (fun h=>?_)))) |(refine lthen_n ?_) |(refine lthen_r ?_) |(refine LPost.r1 (r := .tmp 4) (.inl rfl) (Res1.tmp rfl) ?_) |(refine PureR.mk ?_)
 any_goals (show V.bool _=_;first |(simp_all;done) |(simp_all [same_ne];done) |(simp_all [same];done))
 have hit:(p.items.length:Int)=q.items.length:=by simp_all
 have hfr:(p.src.length:Int)=q.src.length:=by simp_all
 have hor:(p.order.length:Int)=q.order.length:=by simp_all
 refine WL.loopD (fun i:Nat=>p.items.length - i) (fun i=>[(2,.ptr (s.next+0) 0),(3,.ptr (s.next+1) 0),(5,.int .i64 (i:Int))]) (fun i=>[.var p.v.cells,.var q.v.cells])
   (fun i=>i≤p.items.length∧same EE.eqI p.items q.items=eqAll EE.eqI (p.items.drop i) (q.items.drop i)) 2 0 ⟨by omega,same_eq hit⟩ (fun _=>rfl) ⟨rfl,rfl,rfl,trivial⟩ rfl (fun i hi=>?_) (fun i hi=>?_)
 · simp [UnderK,UnderX,Own.under,V.under,V.underL,EQ.v,V.cells]
 obtain ⟨hi,hc⟩:=hi
 rcases Nat.lt_or_ge i p.items.length with hlt | hge
 · have hlt2 : i < q.items.length := by omega
   have hga:(p.items.map EItem.v)[i]?=some (EItem.v p.items[i]):=by rw [List.getElem?_map,List.getElem?_eq_getElem hlt];rfl
   have hgb:(q.items.map EItem.v)[i]?=some (EItem.v q.items[i]):=by rw [List.getElem?_map,List.getElem?_eq_getElem hlt2];rfl
   rw [eqAll_drop hlt hlt2,EE.eqI_eq] at hc
   have hE:=ih p.items[i].e (QueryOf.mem_items (List.getElem_mem hlt)) q.items[i].e
   generalize p.items[i]=a at hga hE hc
   generalize q.items[i]=b at hgb hE hc
   obtain ⟨a0,aq,ae,aa⟩:=a
   obtain ⟨bs,bq,be,ba⟩:=b
   simp only at hE hc
   by_cases k1:a0=bs
   · by_cases k2 : aq = bq
     · by_cases k3 : aa = ba
       · cases hp : EE.eqB ae be
         all_goals rw [hp] at hE hc
         · skip
           repeat' first |(refine kOps ?_;first |(refine LOps.nil ?_) |(refine kG ?_;first |(refine LOps.gT rfl rfl rfl ?_) |(refine LOps.gD false rfl rfl rfl ?_ ?_;(focus (first |(simp <;> omega))))) |(refine kStore ?_;refine LOps.storeP tT_ok rfl rfl rfl rfl rfl rfl rfl rfl rfl ?_) |(refine LOps.ev tT_ok rfl ?_) |(refine kAlloc ?_;refine LOps.alloc tT_ok rfl rfl rfl rfl ?_) |(refine kLoad ?_;first |(refine LOps.ans (AnsL.loadP tT_ok rfl rfl rfl rfl) ?_)) |(refine kLen ?_;first |(refine LOps.ans (AnsL.lenM tT_ok rfl rfl rfl) ?_)) |(refine kIdx ?_;first |(refine LOps.ans (AnsL.idx tT_ok rfl rfl rfl rfl rfl hga rfl rfl) ?_) |(refine LOps.ans (AnsL.idx tT_ok rfl rfl rfl rfl rfl hgb rfl rfl) ?_)) |(refine kCallN 12 ?_;first |(refine LOps.ans (AnsL.callP rfl rfl rfl (ok12) (hE _)) ?_))) |(refine kWL ?_;first |(refine WL.seq ?_) |(refine WL.region (by kernel_rfl) ?_) |(refine WL.block ?_) |(refine WL.skip ?_) |(refine WL.ret ?_) |(refine kCond ?_;first |(refine WL.condT rfl ?_) |(refine WL.condT' rfl ?_ ?_;(focus (first |(simp <;> omega)))))) |(refine lthen_n ?_) |(refine lthen_r ?_) |(refine lblock_r ?_) |(refine lbackD_r ?_) |(refine LPost.r1 (r := .tmp 4) (.inl rfl) (Res1.tmp rfl) ?_) |(refine PureR.mk ?_)
           all_goals (show V.bool _=_;simp_all;done)
         · simp only [k1, k2, k3, decide_true, Bool.true_and] at hc
           repeat' first |(refine kOps ?_;first |(refine LOps.nil ?_) |(refine kG ?_;first |(refine LOps.gT rfl rfl rfl ?_) |(refine LOps.gD false rfl rfl rfl ?_ ?_;(focus (first |(simp <;> omega))))) |(refine kStore ?_;refine LOps.storeP tT_ok rfl rfl rfl rfl rfl rfl rfl rfl rfl ?_) |(refine LOps.ev tT_ok rfl ?_) |(refine kAlloc ?_;refine LOps.alloc tT_ok rfl rfl rfl rfl ?_) |(refine kLoad ?_;first |(refine LOps.ans (AnsL.loadP tT_ok rfl rfl rfl rfl) ?_)) |(refine kLen ?_;first |(refine LOps.ans (AnsL.lenM tT_ok rfl rfl rfl) ?_)) |(refine kBin ?_;first |(refine LOps.ans (AnsL.add rfl rfl ?_) ?_;(focus (constructor <;> omega)))) |(refine kIdx ?_;first |(refine LOps.ans (AnsL.idx tT_ok rfl rfl rfl rfl rfl hga rfl rfl) ?_) |(refine LOps.ans (AnsL.idx tT_ok rfl rfl rfl rfl rfl hgb rfl rfl) ?_)) |(refine kCallN 12 ?_;first |(refine LOps.ans (AnsL.callP rfl rfl rfl (ok12) (hE _)) ?_))) |(refine kWL ?_;first |(refine WL.seq ?_) |(refine WL.region (by kernel_rfl) ?_) |(refine WL.block ?_) |(refine WL.skip ?_) |(refine kCond ?_;first |(refine WL.condF rfl ?_) |(refine WL.condT' rfl ?_ ?_;(focus (first |(simp <;> omega)))))) |(refine lthen_n ?_) |(refine lblock_n ?_)
           all_goals
             refine lbackD.of (i+1) ?_ ?_ ?_ ?_
             · first | omega |(refine ⟨?_,?_⟩;(focus (first | omega |(simp;omega)));(first | omega |(simp_all [hc] <;> fail) |(simp_all [hc];omega))) |(simp_all [hc] <;> fail) |(simp_all [hc];omega)
             · first | omega |(simp;omega) | simp_all
             · repeat' first
                 | exact SubL.nil
                 |(refine SubL.mk rfl ?_ ?_)
                 | rfl
                 |(simp [hc] <;> fail)
                 |(simp [hc];omega)
             · first | rfl |(simp [hc] <;> fail) |(simp [hc];omega)
       · skip
         repeat' first |(refine kOps ?_;first |(refine LOps.nil ?_) |(refine kG ?_;first |(refine LOps.gT rfl rfl rfl ?_) |(refine LOps.gF rfl rfl rfl ?_) |(refine LOps.gD true rfl rfl rfl ?_ ?_;(focus (first |(simp <;> omega)))) |(refine LOps.gD false rfl rfl rfl ?_ ?_;(focus (first |(simp <;> omega))))) |(refine kStore ?_;refine LOps.storeP tT_ok rfl rfl rfl rfl rfl rfl rfl rfl rfl ?_) |(refine LOps.ev tT_ok rfl ?_) |(refine kAlloc ?_;refine LOps.alloc tT_ok rfl rfl rfl rfl ?_) |(refine kLoad ?_;first |(refine LOps.ans (AnsL.loadP tT_ok rfl rfl rfl rfl) ?_)) |(refine kLen ?_;first |(refine LOps.ans (AnsL.lenM tT_ok rfl rfl rfl) ?_)) |(refine kIdx ?_;first |(refine LOps.ans (AnsL.idx tT_ok rfl rfl rfl rfl rfl hga rfl rfl) ?_) |(refine LOps.ans (AnsL.idx tT_ok rfl rfl rfl rfl rfl hgb rfl rfl) ?_))) |(refine kWL ?_;first |(refine WL.seq ?_) |(refine WL.region (by kernel_rfl) ?_) |(refine WL.block ?_) |(refine WL.skip ?_) |(refine WL.ret ?_) |(refine kCond ?_;first |(refine WL.condT rfl ?_) |(refine WL.condT' rfl ?_ ?_;(focus (first |(simp <;> omega)))))) |(refine lthen_n ?_) |(refine lthen_r ?_) |(refine lblock_r ?_) |(refine lbackD_r ?_) |(refine LPost.r1 (r := .tmp 4) (.inl rfl) (Res1.tmp rfl) ?_) |(refine PureR.mk ?_)
         all_goals (show V.bool _=_;simp_all;done)
     · skip
       repeat' first |(refine kOps ?_;first |(refine LOps.nil ?_) |(refine kG ?_;first |(refine LOps.gT rfl rfl rfl ?_) |(refine LOps.gF rfl rfl rfl ?_) |(refine LOps.gD true rfl rfl rfl ?_ ?_;(focus (first |(simp <;> omega)))) |(refine LOps.gD false rfl rfl rfl ?_ ?_;(focus (first |(simp <;> omega))))) |(refine kStore ?_;refine LOps.storeP tT_ok rfl rfl rfl rfl rfl rfl rfl rfl rfl ?_) |(refine LOps.ev tT_ok rfl ?_) |(refine kAlloc ?_;refine LOps.alloc tT_ok rfl rfl rfl rfl ?_) |(refine kLoad ?_;first |(refine LOps.ans (AnsL.loadP tT_ok rfl rfl rfl rfl) ?_)) |(refine kLen ?_;first |(refine LOps.ans (AnsL.lenM tT_ok rfl rfl rfl) ?_)) |(refine kIdx ?_;first |(refine LOps.ans (AnsL.idx tT_ok rfl rfl rfl rfl rfl hga rfl rfl) ?_) |(refine LOps.ans (AnsL.idx tT_ok rfl rfl rfl rfl rfl hgb rfl rfl) ?_))) |(refine kWL ?_;first |(refine WL.seq ?_) |(refine WL.region (by kernel_rfl) ?_) |(refine WL.block ?_) |(refine WL.skip ?_) |(refine WL.ret ?_) |(refine kCond ?_;first |(refine WL.condT rfl ?_) |(refine WL.condT' rfl ?_ ?_;(focus (first |(simp <;> omega)))))) |(refine lthen_n ?_) |(refine lthen_r ?_) |(refine lblock_r ?_) |(refine lbackD_r ?_) |(refine LPost.r1 (r := .tmp 4) (.inl rfl) (Res1.tmp rfl) ?_) |(refine PureR.mk ?_)
       all_goals (show V.bool _=_;simp_all;done)
   · skip
     repeat' first |(refine kOps ?_;first |(refine LOps.nil ?_) |(refine kG ?_;first |(refine LOps.gF rfl rfl rfl ?_) |(refine LOps.gD true rfl rfl rfl ?_ ?_;(focus (first |(simp <;> omega))))) |(refine kStore ?_;refine LOps.storeP tT_ok rfl rfl rfl rfl rfl rfl rfl rfl rfl ?_) |(refine LOps.ev tT_ok rfl ?_) |(refine kAlloc ?_;refine LOps.alloc tT_ok rfl rfl rfl rfl ?_) |(refine kLoad ?_;first |(refine LOps.ans (AnsL.loadP tT_ok rfl rfl rfl rfl) ?_)) |(refine kLen ?_;first |(refine LOps.ans (AnsL.lenM tT_ok rfl rfl rfl) ?_)) |(refine kIdx ?_;first |(refine LOps.ans (AnsL.idx tT_ok rfl rfl rfl rfl rfl hga rfl rfl) ?_) |(refine LOps.ans (AnsL.idx tT_ok rfl rfl rfl rfl rfl hgb rfl rfl) ?_))) |(refine kWL ?_;first |(refine WL.seq ?_) |(refine WL.region (by kernel_rfl) ?_) |(refine WL.block ?_) |(refine WL.skip ?_) |(refine WL.ret ?_) |(refine kCond ?_;first |(refine WL.condT rfl ?_) |(refine WL.condT' rfl ?_ ?_;(focus (first |(simp <;> omega)))))) |(refine lthen_n ?_) |(refine lthen_r ?_) |(refine lblock_r ?_) |(refine lbackD_r ?_) |(refine LPost.r1 (r := .tmp 4) (.inl rfl) (Res1.tmp rfl) ?_) |(refine PureR.mk ?_)
     all_goals (show V.bool _=_;simp_all;done)
 rw [eqAll_end hge] at hc
 repeat' first |(refine kOps ?_;first |(refine LOps.nil ?_) |(refine LOps.ev tT_ok rfl ?_) |(refine kLoad ?_;first |(refine LOps.ans (AnsL.loadP tT_ok rfl rfl rfl rfl) ?_)) |(refine kLen ?_;first |(refine LOps.ans (AnsL.lenM tT_ok rfl rfl rfl) ?_))) |(refine kWL ?_;first |(refine WL.seq ?_) |(refine WL.region (by kernel_rfl) ?_) |(refine WL.block ?_) |(refine WL.exit ?_) |(refine kCond ?_;first |(refine WL.condF' rfl ?_ ?_;(focus (first |(simp <;> omega)))))) |(refine lthen_n ?_) |(refine lthen_e ?_) |(refine lblock_e ?_) |(refine lbackD_e ?_)
 refine WL.loopD (fun i:Nat=>p.src.length - i) (fun i=>[(2,.ptr (s.next+0) 0),(3,.ptr (s.next+1) 0),(8,.int .i64 (i:Int))]) (fun i=>[.var p.v.cells,.var q.v.cells])
   (fun i=>i≤p.src.length∧same EE.eqF p.src q.src=eqAll EE.eqF (p.src.drop i) (q.src.drop i)) 2 0 ⟨by omega,same_eq hfr⟩ (fun _=>rfl) ⟨rfl,rfl,rfl,trivial⟩ rfl (fun i hi=>?_) (fun i hi=>?_)
 · simp [UnderK,UnderX,Own.under,V.under,V.underL,EQ.v,V.cells]
 obtain ⟨hi,hc2⟩:=hi
 rcases Nat.lt_or_ge i p.src.length with hlt | hge2
 · have hlt2 : i < q.src.length := by omega
   have hga:(p.src.map ESrc.v)[i]?=some (ESrc.v p.src[i]):=by rw [List.getElem?_map,List.getElem?_eq_getElem hlt];rfl
   have hgb:(q.src.map ESrc.v)[i]?=some (ESrc.v q.src[i]):=by rw [List.getElem?_map,List.getElem?_eq_getElem hlt2];rfl
   rw [eqAll_drop hlt hlt2,EE.eqF_eq] at hc2
   have hE:=fun t=>specl7Same_v p.src[i].on q.src[i].on t fun k hk=>ih k (QueryOf.mem_src (List.getElem_mem hlt) hk)
   generalize p.src[i]=a at hga hE hc2
   generalize q.src[i]=b at hgb hE hc2
   obtain ⟨at',aa,ao⟩:=a
   obtain ⟨bt,ba,bo⟩:=b
   simp only at hE hc2
   by_cases k1:at'=bt
   · by_cases k2 : aa = ba
     · cases hp : same EE.eqB ao bo
       all_goals rw [hp] at hE hc2
       · skip
         repeat' first |(refine kOps ?_;first |(refine LOps.nil ?_) |(refine kG ?_;first |(refine LOps.gT rfl rfl rfl ?_) |(refine LOps.gD false rfl rfl rfl ?_ ?_;(focus (first |(simp <;> omega))))) |(refine kStore ?_;refine LOps.storeP tT_ok rfl rfl rfl rfl rfl rfl rfl rfl rfl ?_) |(refine LOps.ev tT_ok rfl ?_) |(refine kAlloc ?_;refine LOps.alloc tT_ok rfl rfl rfl rfl ?_) |(refine kLoad ?_;first |(refine LOps.ans (AnsL.loadP tT_ok rfl rfl rfl rfl) ?_)) |(refine kLen ?_;first |(refine LOps.ans (AnsL.lenM tT_ok rfl rfl rfl) ?_)) |(refine kIdx ?_;first |(refine LOps.ans (AnsL.idx tT_ok rfl rfl rfl rfl rfl hga rfl rfl) ?_) |(refine LOps.ans (AnsL.idx tT_ok rfl rfl rfl rfl rfl hgb rfl rfl) ?_)) |(refine kCallN 32 ?_;first |(refine LOps.ans (AnsL.callP rfl rfl rfl (ok32) (hE _)) ?_))) |(refine kWL ?_;first |(refine WL.seq ?_) |(refine WL.region (by kernel_rfl) ?_) |(refine WL.block ?_) |(refine WL.skip ?_) |(refine WL.ret ?_) |(refine kCond ?_;first |(refine WL.condT rfl ?_) |(refine WL.condT' rfl ?_ ?_;(focus (first |(simp <;> omega)))))) |(refine lthen_n ?_) |(refine lthen_r ?_) |(refine lblock_r ?_) |(refine lbackD_r ?_) |(refine LPost.r1 (r := .tmp 4) (.inl rfl) (Res1.tmp rfl) ?_) |(refine PureR.mk ?_)
         all_goals (show V.bool _=_;simp_all;done)
       · simp only [k1, k2, decide_true, Bool.true_and] at hc2
         repeat' first |(refine kOps ?_;first |(refine LOps.nil ?_) |(refine kG ?_;first |(refine LOps.gT rfl rfl rfl ?_) |(refine LOps.gD false rfl rfl rfl ?_ ?_;(focus (first |(simp <;> omega))))) |(refine kStore ?_;refine LOps.storeP tT_ok rfl rfl rfl rfl rfl rfl rfl rfl rfl ?_) |(refine LOps.ev tT_ok rfl ?_) |(refine kAlloc ?_;refine LOps.alloc tT_ok rfl rfl rfl rfl ?_) |(refine kLoad ?_;first |(refine LOps.ans (AnsL.loadP tT_ok rfl rfl rfl rfl) ?_)) |(refine kLen ?_;first |(refine LOps.ans (AnsL.lenM tT_ok rfl rfl rfl) ?_)) |(refine kBin ?_;first |(refine LOps.ans (AnsL.add rfl rfl ?_) ?_;(focus (constructor <;> omega)))) |(refine kIdx ?_;first |(refine LOps.ans (AnsL.idx tT_ok rfl rfl rfl rfl rfl hga rfl rfl) ?_) |(refine LOps.ans (AnsL.idx tT_ok rfl rfl rfl rfl rfl hgb rfl rfl) ?_)) |(refine kCallN 32 ?_;first |(refine LOps.ans (AnsL.callP rfl rfl rfl (ok32) (hE _)) ?_))) |(refine kWL ?_;first |(refine WL.seq ?_) |(refine WL.region (by kernel_rfl) ?_) |(refine WL.block ?_) |(refine WL.skip ?_) |(refine kCond ?_;first |(refine WL.condF rfl ?_) |(refine WL.condT' rfl ?_ ?_;(focus (first |(simp <;> omega)))))) |(refine lthen_n ?_) |(refine lblock_n ?_)
         all_goals
           refine lbackD.of (i+1) ?_ ?_ ?_ ?_
           · first | omega |(refine ⟨?_,?_⟩;(focus (first | omega |(simp;omega)));(first | omega |(simp_all [hc2] <;> fail) |(simp_all [hc2];omega))) |(simp_all [hc2] <;> fail) |(simp_all [hc2];omega)
           · first | omega |(simp;omega) | simp_all
           · repeat' first
               | exact SubL.nil
               |(refine SubL.mk rfl ?_ ?_)
               | rfl
               |(simp [hc2] <;> fail)
               |(simp [hc2];omega)
           · first | rfl |(simp [hc2] <;> fail) |(simp [hc2];omega)
     · skip
       repeat' first |(refine kOps ?_;first |(refine LOps.nil ?_) |(refine kG ?_;first |(refine LOps.gT rfl rfl rfl ?_) |(refine LOps.gF rfl rfl rfl ?_) |(refine LOps.gD true rfl rfl rfl ?_ ?_;(focus (first |(simp <;> omega)))) |(refine LOps.gD false rfl rfl rfl ?_ ?_;(focus (first |(simp <;> omega))))) |(refine kStore ?_;refine LOps.storeP tT_ok rfl rfl rfl rfl rfl rfl rfl rfl rfl ?_) |(refine LOps.ev tT_ok rfl ?_) |(refine kAlloc ?_;refine LOps.alloc tT_ok rfl rfl rfl rfl ?_) |(refine kLoad ?_;first |(refine LOps.ans (AnsL.loadP tT_ok rfl rfl rfl rfl) ?_)) |(refine kLen ?_;first |(refine LOps.ans (AnsL.lenM tT_ok rfl rfl rfl) ?_)) |(refine kIdx ?_;first |(refine LOps.ans (AnsL.idx tT_ok rfl rfl rfl rfl rfl hga rfl rfl) ?_) |(refine LOps.ans (AnsL.idx tT_ok rfl rfl rfl rfl rfl hgb rfl rfl) ?_))) |(refine kWL ?_;first |(refine WL.seq ?_) |(refine WL.region (by kernel_rfl) ?_) |(refine WL.block ?_) |(refine WL.skip ?_) |(refine WL.ret ?_) |(refine kCond ?_;first |(refine WL.condT rfl ?_) |(refine WL.condT' rfl ?_ ?_;(focus (first |(simp <;> omega)))))) |(refine lthen_n ?_) |(refine lthen_r ?_) |(refine lblock_r ?_) |(refine lbackD_r ?_) |(refine LPost.r1 (r := .tmp 4) (.inl rfl) (Res1.tmp rfl) ?_) |(refine PureR.mk ?_)
       all_goals (show V.bool _=_;simp_all;done)
   · skip
     repeat' first |(refine kOps ?_;first |(refine LOps.nil ?_) |(refine kG ?_;first |(refine LOps.gF rfl rfl rfl ?_) |(refine LOps.gD true rfl rfl rfl ?_ ?_;(focus (first |(simp <;> omega))))) |(refine kStore ?_;refine LOps.storeP tT_ok rfl rfl rfl rfl rfl rfl rfl rfl rfl ?_) |(refine LOps.ev tT_ok rfl ?_) |(refine kAlloc ?_;refine LOps.alloc tT_ok rfl rfl rfl rfl ?_) |(refine kLoad ?_;first |(refine LOps.ans (AnsL.loadP tT_ok rfl rfl rfl rfl) ?_)) |(refine kLen ?_;first |(refine LOps.ans (AnsL.lenM tT_ok rfl rfl rfl) ?_)) |(refine kIdx ?_;first |(refine LOps.ans (AnsL.idx tT_ok rfl rfl rfl rfl rfl hga rfl rfl) ?_) |(refine LOps.ans (AnsL.idx tT_ok rfl rfl rfl rfl rfl hgb rfl rfl) ?_))) |(refine kWL ?_;first |(refine WL.seq ?_) |(refine WL.region (by kernel_rfl) ?_) |(refine WL.block ?_) |(refine WL.skip ?_) |(refine WL.ret ?_) |(refine kCond ?_;first |(refine WL.condT rfl ?_) |(refine WL.condT' rfl ?_ ?_;(focus (first |(simp <;> omega)))))) |(refine lthen_n ?_) |(refine lthen_r ?_) |(refine lblock_r ?_) |(refine lbackD_r ?_) |(refine LPost.r1 (r := .tmp 4) (.inl rfl) (Res1.tmp rfl) ?_) |(refine PureR.mk ?_)
     all_goals (show V.bool _=_;simp_all;done)
 rw [eqAll_end hge2] at hc2
 repeat' first |(refine kOps ?_;first |(refine LOps.nil ?_) |(refine LOps.ev tT_ok rfl ?_) |(refine kLoad ?_;first |(refine LOps.ans (AnsL.loadP tT_ok rfl rfl rfl rfl) ?_)) |(refine kLen ?_;first |(refine LOps.ans (AnsL.lenM tT_ok rfl rfl rfl) ?_))) |(refine kWL ?_;first |(refine WL.seq ?_) |(refine WL.region (by kernel_rfl) ?_) |(refine WL.block ?_) |(refine WL.exit ?_) |(refine kCond ?_;first |(refine WL.condF' rfl ?_ ?_;(focus (first |(simp <;> omega)))))) |(refine lthen_n ?_) |(refine lthen_e ?_) |(refine lblock_e ?_) |(refine lbackD_e ?_)
 refine WL.loopD (fun i:Nat=>p.order.length - i) (fun i=>[(2,.ptr (s.next+0) 0),(3,.ptr (s.next+1) 0),(11,.int .i64 (i:Int))]) (fun i=>[.var p.v.cells,.var q.v.cells])
   (fun i=>i≤p.order.length∧same EE.eqO p.order q.order=eqAll EE.eqO (p.order.drop i) (q.order.drop i)) 2 0 ⟨by omega,same_eq hor⟩ (fun _=>rfl) ⟨rfl,rfl,rfl,trivial⟩ rfl (fun i hi=>?_) (fun i hi=>?_)
 · simp [UnderK,UnderX,Own.under,V.under,V.underL,EQ.v,V.cells]
 obtain ⟨hi,hc3⟩:=hi
 rcases Nat.lt_or_ge i p.order.length with hlt | hge3
 · have hlt2 : i < q.order.length := by omega
   have hga:(p.order.map EE.sv)[i]?=some (EE.sv p.order[i]):=by rw [List.getElem?_map,List.getElem?_eq_getElem hlt];rfl
   have hgb:(q.order.map EE.sv)[i]?=some (EE.sv q.order[i]):=by rw [List.getElem?_map,List.getElem?_eq_getElem hlt2];rfl
   rw [eqAll_drop hlt hlt2,EE.eqO_eq] at hc3
   have hE:=ih p.order[i].1 (QueryOf.mem_order (List.getElem_mem hlt)) q.order[i].1
   generalize p.order[i]=a at hga hE hc3
   generalize q.order[i]=b at hgb hE hc3
   obtain ⟨a,da⟩:=a
   obtain ⟨b,db⟩:=b
   simp only at hE hc3
   cases hp:EE.eqB a b
   all_goals
     rw [hp] at hE hc3
     cases da
     all_goals cases db
   repeat' first |(refine kOps ?_;first |(refine LOps.nil ?_) |(refine LOps.ev tT_ok rfl ?_) |(refine kLoad ?_;first |(refine LOps.ans (AnsL.loadP tT_ok rfl rfl rfl rfl) ?_)) |(refine kLen ?_;first |(refine LOps.ans (AnsL.lenM tT_ok rfl rfl rfl) ?_)) |(refine kBin ?_;first |(refine LOps.ans (AnsL.add rfl rfl ?_) ?_;(focus (constructor <;> omega))))) |(refine kWL ?_;first |(refine WL.seq ?_) |(refine WL.region (by kernel_rfl) ?_) |(refine WL.drawn (id:=20) [0,1,2,3,4,5,6,7,8,9,10,11,12,13,14,15,16,17,18,19,20,21,22,23,24,25,26,27,28] [] [[],[0],[],[0,1,2],[0,1,2,3],[0,1,2,3,4],[],[6],[],[6,7,8],[6,7,8,9],[6,7,8,9,10],[0,1,2,3,4,5,6,7,8,9,10,11],[0,1,2,3,4,5,6,7,8,9,10,11,12],[0,1,2,3,4,5,6,7,8,9,10,11,12,13],[0,1,2,3,4,5,6,7,8,9,10,11,12,13,14],[0,1,2,3,4,5,6,7,8,9,10,11,12,13],[0,1,2,3,4,5,6,7,8,9,10,11,12,13,14,15,16],[0,1,2,3,4,5,6,7,8,9,10,11,12,13,14,15,16,17],[0,1,2,3,4,5,6,7,8,9,10,11,12,13,14,15,16,17,18],[0,1,2,3,4,5,6,7,8,9,10,11,12,13],[0,1,2,3,4,5,6,7,8,9,10,11,12,13,20],[0,1,2,3,4,5,6,7,8,9,10,11,12,13],[0,1,2,3,4,5,6,7,8,9,10,11,12,13,20,21,22],[0,1,2,3,4,5,6,7,8,9,10,11,12,13,20,21,22,23],[0,1,2,3,4,5,6,7,8,9,10,11,12,13,20,21,22,23,24],[0,1,2,3,4,5,6,7,8,9,10,11,12,13,14,15,16,17,18,19,20,21,22,23,24,25],[0,1,2,3,4,5,6,7,8,9,10,11,12,13,14,15,16,17,18,19,20,21,22,23,24,25,26],[0,1,2,3,4,5,6,7,8,9,10,11,12,13,14,15,16,17,18,19,20,21,22,23,24,25,26,27]] (by kernel_rfl) (by kernel_rfl) ?_) |(refine WL.block ?_) |(refine WL.skip ?_) |(refine WL.ret ?_) |(refine kCond ?_;first |(refine WL.condT rfl ?_) |(refine WL.condF rfl ?_) |(refine WL.condT' rfl ?_ ?_;(focus (first |(simp <;> omega)))))) |(refine kDr ?_;first |(refine LDr.nil ?_) |(refine LDr.fl rfl rfl (.ev tT_ok rfl) ?_) |(refine LDr.gF rfl rfl rfl rfl rfl ?_) |(refine LDr.gT rfl rfl rfl rfl rfl (.ev tT_ok rfl) ?_) |(refine kDLoad rfl ?_;first |(refine LDr.fl rfl rfl (AnsL.loadP tT_ok rfl rfl rfl rfl) ?_) |(refine LDr.gT rfl rfl rfl rfl rfl (AnsL.loadP tT_ok rfl rfl rfl rfl) ?_)) |(refine kDIdx rfl ?_;first |(refine LDr.fl rfl rfl (AnsL.idx tT_ok rfl rfl rfl rfl rfl hga rfl rfl) ?_) |(refine LDr.gT rfl rfl rfl rfl rfl (AnsL.idx tT_ok rfl rfl rfl rfl rfl hga rfl rfl) ?_) |(refine LDr.fl rfl rfl (AnsL.idx tT_ok rfl rfl rfl rfl rfl hgb rfl rfl) ?_) |(refine LDr.gT rfl rfl rfl rfl rfl (AnsL.idx tT_ok rfl rfl rfl rfl rfl hgb rfl rfl) ?_)) |(refine kDCallN 12 rfl ?_;first |(refine LDr.gT rfl rfl rfl rfl rfl (AnsL.callP rfl rfl rfl (ok12) (hE _)) ?_))) |(refine lthen_n ?_) |(refine lthen_r ?_) |(refine lblock_n ?_) |(refine lblock_r ?_) |(refine lbackD_r ?_) |(refine LPost.r1 (r := .tmp 4) (.inl rfl) (Res1.tmp rfl) ?_) |(refine PureR.mk ?_)
   any_goals (show V.bool _=_;simp_all;done)
   all_goals
     simp only [decide_true,Bool.true_and] at hc3
   all_goals
     refine lbackD.of (i+1) ?_ ?_ ?_ ?_
     · first | omega |(refine ⟨?_,?_⟩;(focus (first | omega |(simp;omega)));(first | omega |(simp_all [hc3] <;> fail) |(simp_all [hc3];omega))) |(simp_all [hc3] <;> fail) |(simp_all [hc3];omega)
     · first | omega |(simp;omega) | simp_all
     · repeat' first
         | exact SubL.nil
         |(refine SubL.mk rfl ?_ ?_)
         | rfl
         |(simp [hc3] <;> fail)
         |(simp [hc3];omega)
     · first | rfl |(simp [hc3] <;> fail) |(simp [hc3];omega)
 rw [eqAll_end hge3] at hc3
 repeat' first |(refine kOps ?_;first |(refine LOps.nil ?_) |(refine LOps.ev tT_ok rfl ?_) |(refine kLoad ?_;first |(refine LOps.ans (AnsL.loadP tT_ok rfl rfl rfl rfl) ?_)) |(refine kLen ?_;first |(refine LOps.ans (AnsL.lenM tT_ok rfl rfl rfl) ?_))) |(refine kWL ?_;first |(refine WL.seq ?_) |(refine WL.region (by kernel_rfl) ?_) |(refine WL.exit ?_) |(refine WL.ret ?_) |(refine kCond ?_;first |(refine WL.condF' rfl ?_ ?_;(focus (first |(simp <;> omega)))))) |(refine lthen_n ?_) |(refine lthen_e ?_) |(refine lblock_e ?_) |(refine lbackD_e ?_) |(refine LPost.r1 (r := .tmp 4) (.inl rfl) (Res1.tmp rfl) ?_) |(refine PureR.mk ?_)
 show V.bool _=_
 simp_all
set_option maxHeartbeats 1000000 in
theorem specSameExpr_c (x:EE):SameE Try.prog 12 x:=by
 induction x using EE.ind with
 | h x ih1 ih2 =>
   intro y s
   rw [EE.eqB_eq]
   refine VCalls.wf fun hwf=>?_
   simp only [EE.v,List.all_cons,List.all_nil,V.wf,V.wfL,Bool.and_true,Bool.and_eq_true,decide_eq_true_eq,List.length_map,maxLen] at hwf
   refine LCalls.pure Try.func12 rfl (by kernel_rfl) (by simp) ?_
   repeat' first |(refine kOps ?_;first |(refine LOps.nil ?_) |(refine kG ?_;first |(refine LOps.gT rfl rfl rfl ?_) |(refine LOps.gF rfl rfl rfl ?_) |(refine LOps.gC rfl rfl rfl (fun h=>?_) (fun h=>?_))) |(refine LOps.ev tT_ok rfl ?_) |(refine kBox ?_;refine LOps.box rfl rfl rfl rfl ?_) |(refine kLoad ?_;first |(refine LOps.ans (AnsL.loadP tT_ok rfl rfl rfl rfl) ?_)) |(refine kLen ?_;first |(refine LOps.ans (AnsL.lenM tT_ok rfl rfl rfl) ?_)) |(refine kCallN 32 ?_;first |(refine LOps.ans (AnsL.callP rfl rfl rfl (ok32) (specl7Same_v x.kids y.kids _ ih1)) ?_))) |(refine kWL ?_;first |(refine WL.seq ?_) |(refine WL.region (by kernel_rfl) ?_) |(refine WL.block ?_) |(refine WL.skip ?_) |(refine WL.ret ?_) |(refine kCond ?_;first |(refine WL.condT rfl ?_) |(refine WL.cond rfl (fun h=>?_) (fun h=>?_)))) |(refine lthen_n ?_) |(refine lthen_r ?_) |(refine LPost.r1 (r := .tmp 4) (.inl rfl) (Res1.tmp rfl) ?_) |(refine PureR.mk ?_)
   any_goals (show V.bool _=_;first |(simp_all [valEq];done) |(simp_all [same_ne];done) |(simp [valEq];grind))
   have hne:(x.sub.length:Int)=y.sub.length:=by simp_all
   refine WL.loopD (fun i:Nat=>x.sub.length - i) (fun i=>[(2,.ptr (s.next+0) 0),(3,.ptr (s.next+1) 0),(5,.int .i64 (i:Int))]) (fun i=>[.var x.v.cells,.var y.v.cells])
     (fun i=>i≤x.sub.length∧same EE.eqQ x.sub y.sub=eqAll EE.eqQ (x.sub.drop i) (y.sub.drop i)) 2 0 ⟨by omega,same_eq hne⟩ (fun _=>rfl) ⟨rfl,rfl,rfl,trivial⟩ rfl (fun i hi=>?_) (fun i hi=>?_)
   · simp [UnderK,UnderX,Own.under,V.under,V.underL,EE.v,V.cells]
   obtain ⟨hi,hc⟩:=hi
   rcases Nat.lt_or_ge i x.sub.length with hlt | hge
   · have hlt2 : i < y.sub.length := by omega
     have hga:(x.sub.map EE.queryV)[i]?=some (EQ.v x.sub[i]):=by rw [List.getElem?_map,List.getElem?_eq_getElem hlt];simp only [Option.map_some,EE.queryV_eq]
     have hgb:(y.sub.map EE.queryV)[i]?=some (EQ.v y.sub[i]):=by rw [List.getElem?_map,List.getElem?_eq_getElem hlt2];simp only [Option.map_some,EE.queryV_eq]
     rw [eqAll_drop hlt hlt2] at hc
     have hE:=fun t=>specSameQuery_r x.sub[i] y.sub[i] (ih2 x.sub[i] (List.getElem_mem hlt)) t
     generalize x.sub[i]=a at hga hE hc
     generalize y.sub[i]=b at hgb hE hc
     cases hp:EE.eqQ a b
     all_goals rw [hp] at hE hc
     · skip
       repeat' first |(refine kOps ?_;first |(refine LOps.nil ?_) |(refine LOps.ev tT_ok rfl ?_) |(refine kLoad ?_;first |(refine LOps.ans (AnsL.loadP tT_ok rfl rfl rfl rfl) ?_)) |(refine kLen ?_;first |(refine LOps.ans (AnsL.lenM tT_ok rfl rfl rfl) ?_))) |(refine kWL ?_;first |(refine WL.seq ?_) |(refine WL.region (by kernel_rfl) ?_) |(refine WL.drawn (id:=6) [0,1,2,3,4,5,6,7,8,9,10,11] [] [[],[0],[],[0,1,2],[0,1,2,3],[],[5],[],[5,6,7],[5,6,7,8],[0,1,2,3,4,5,6,7,8,9],[0,1,2,3,4,5,6,7,8,9,10]] (by kernel_rfl) (by kernel_rfl) ?_) |(refine WL.block ?_) |(refine WL.skip ?_) |(refine WL.ret ?_) |(refine kCond ?_;first |(refine WL.condT rfl ?_) |(refine WL.condT' rfl ?_ ?_;(focus (first |(simp <;> omega)))))) |(refine kDr ?_;first |(refine LDr.nil ?_) |(refine LDr.fl rfl rfl (.ev tT_ok rfl) ?_) |(refine kDLoad rfl ?_;first |(refine LDr.fl rfl rfl (AnsL.loadP tT_ok rfl rfl rfl rfl) ?_)) |(refine kDIdx rfl ?_;first |(refine LDr.fl rfl rfl (AnsL.idx tT_ok rfl rfl rfl rfl rfl hga rfl rfl) ?_) |(refine LDr.fl rfl rfl (AnsL.idx tT_ok rfl rfl rfl rfl rfl hgb rfl rfl) ?_)) |(refine kDCallN 33 rfl ?_;first |(refine LDr.fl rfl rfl (AnsL.callP rfl rfl rfl (ok33) (hE _)) ?_))) |(refine lthen_n ?_) |(refine lthen_r ?_) |(refine lblock_r ?_) |(refine lbackD_r ?_) |(refine LPost.r1 (r := .tmp 4) (.inl rfl) (Res1.tmp rfl) ?_) |(refine PureR.mk ?_)
       all_goals simp_all
     · skip
       repeat' first |(refine kOps ?_;first |(refine LOps.nil ?_) |(refine LOps.ev tT_ok rfl ?_) |(refine kLoad ?_;first |(refine LOps.ans (AnsL.loadP tT_ok rfl rfl rfl rfl) ?_)) |(refine kLen ?_;first |(refine LOps.ans (AnsL.lenM tT_ok rfl rfl rfl) ?_)) |(refine kBin ?_;first |(refine LOps.ans (AnsL.add rfl rfl ?_) ?_;(focus (constructor <;> omega))))) |(refine kWL ?_;first |(refine WL.seq ?_) |(refine WL.region (by kernel_rfl) ?_) |(refine WL.drawn (id:=6) [0,1,2,3,4,5,6,7,8,9,10,11] [] [[],[0],[],[0,1,2],[0,1,2,3],[],[5],[],[5,6,7],[5,6,7,8],[0,1,2,3,4,5,6,7,8,9],[0,1,2,3,4,5,6,7,8,9,10]] (by kernel_rfl) (by kernel_rfl) ?_) |(refine WL.block ?_) |(refine WL.skip ?_) |(refine kCond ?_;first |(refine WL.condF rfl ?_) |(refine WL.condT' rfl ?_ ?_;(focus (first |(simp <;> omega)))))) |(refine kDr ?_;first |(refine LDr.nil ?_) |(refine LDr.fl rfl rfl (.ev tT_ok rfl) ?_) |(refine kDLoad rfl ?_;first |(refine LDr.fl rfl rfl (AnsL.loadP tT_ok rfl rfl rfl rfl) ?_)) |(refine kDIdx rfl ?_;first |(refine LDr.fl rfl rfl (AnsL.idx tT_ok rfl rfl rfl rfl rfl hga rfl rfl) ?_) |(refine LDr.fl rfl rfl (AnsL.idx tT_ok rfl rfl rfl rfl rfl hgb rfl rfl) ?_)) |(refine kDCallN 33 rfl ?_;first |(refine LDr.fl rfl rfl (AnsL.callP rfl rfl rfl (ok33) (hE _)) ?_))) |(refine lthen_n ?_) |(refine lblock_n ?_)
       all_goals
         refine lbackD.of (i+1) ?_ ?_ ?_ ?_
         · first | omega |(refine ⟨?_,?_⟩;(focus (first | omega |(simp;omega)));(first | omega |(simp_all [hc,hp] <;> fail) |(simp_all [hc,hp];omega))) |(simp_all [hc,hp] <;> fail) |(simp_all [hc,hp];omega)
         · first | omega |(simp;omega) | simp_all
         · repeat' first
             | exact SubL.nil
             |(refine SubL.mk rfl ?_ ?_)
             | rfl
             |(simp [hc,hp] <;> fail)
             |(simp [hc,hp];omega)
         · first | rfl |(simp [hc,hp] <;> fail) |(simp [hc,hp];omega)
   · rw [eqAll_end hge] at hc
     repeat' first |(refine kOps ?_;first |(refine LOps.nil ?_) |(refine LOps.ev tT_ok rfl ?_) |(refine kLoad ?_;first |(refine LOps.ans (AnsL.loadP tT_ok rfl rfl rfl rfl) ?_)) |(refine kLen ?_;first |(refine LOps.ans (AnsL.lenM tT_ok rfl rfl rfl) ?_))) |(refine kWL ?_;first |(refine WL.seq ?_) |(refine WL.region (by kernel_rfl) ?_) |(refine WL.exit ?_) |(refine WL.ret ?_) |(refine kCond ?_;first |(refine WL.condF' rfl ?_ ?_;(focus (first |(simp <;> omega)))))) |(refine lthen_n ?_) |(refine lthen_e ?_) |(refine lblock_e ?_) |(refine lbackD_e ?_) |(refine LPost.r1 (r := .tmp 4) (.inl rfl) (Res1.tmp rfl) ?_) |(refine PureR.mk ?_)
     show V.bool _=_;simp_all [valEq]
end Go.Proofs.Ytikghanejpigjaa
