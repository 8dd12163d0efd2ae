/-
 Parts, sizes and depths of plans, of the program and of the reference, and the laws. Printed by a program of our own; no condition.
-/
import Derived.Test.YtolhegocbkckdaaMg12
namespace Go.Proofs.Ytolhegocbkckdaa
open Go
set_option linter.unusedSimpArgs false
set_option linter.unusedVariables false
def foldW (op:Nat→Nat→Nat) {α : Type} (f : α → Nat):List α → Nat
 | []=>0
 | x::l=>op (f x) (foldW op f l)
structure OpOk (op:Nat→Nat→Nat):Prop where
 assoc:∀ a b c,op (op a b) c=op a (op b c)
 z1:∀ a,op 0 a=a
 z2:∀ a,op a 0=a
 le:∀ a b,op a b≤a+b
theorem addOk:OpOk (fun a b=>a+b):=⟨Nat.add_assoc,Nat.zero_add,Nat.add_zero,fun _ _=>Nat.le_refl _⟩
theorem maxOk:OpOk (fun a b=>max a b):=⟨Nat.max_assoc,Nat.zero_max,Nat.max_zero,fun a b=>by omega⟩
section
variable {op:Nat→Nat→Nat} (h:OpOk op)
include h
theorem foldW_append {α : Type} (f : α → Nat) (a b:List α):foldW op f (a++b)=op (foldW op f a) (foldW op f b):=by
 induction a with
 | nil=>simp only [List.nil_append,foldW,h.z1]
 | cons x a ih=>simp only [List.cons_append,foldW,ih,h.assoc]
theorem foldW_le {α : Type} (f : α → Nat) (l:List α):foldW op f l≤sumW f l:=by
 induction l with
 | nil=>simp [foldW,sumW]
 | cons x l ih =>
   have:=h.le (f x) (foldW op f l)
   simp only [foldW,sumW,List.map_cons,List.sum_cons] at *
   omega
theorem foldW_le_take {α : Type} (f : α → Nat) (l:List α) (i:Nat):foldW op f (l.take i)≤sumW f l:=Nat.le_trans (foldW_le h f _) (sumW_take_le f l i)
theorem foldW_flatten {α : Type} (f : α → Nat) (l:List (List α)):foldW op f l.flatten=foldW op (foldW op f) l:=by
 induction l with
 | nil=>rfl
 | cons x l ih=>simp only [List.flatten_cons,foldW_append h,ih,foldW]
end
theorem foldW_map {op:Nat→Nat→Nat} {α β : Type} (f : β → Nat) (g : α → β) (l:List α):foldW op f (l.map g)=foldW op (fun x=>f (g x)) l:=by
 induction l with
 | nil=>rfl
 | cons x l ih=>simp only [List.map_cons,foldW,ih]
theorem sumW_mono {α : Type} {f g : α → Nat}:∀ {l:List α},(∀ x∈l,f x≤g x)→sumW f l≤sumW g l
 | [],_=>Nat.le_refl _
 | x::l,h=>by
   have h1:=h x (by simp)
   have h2:=sumW_mono (l:=l) fun y hy=>h y (by simp [hy])
   simp only [sumW,List.map_cons,List.sum_cons] at *
   omega
theorem sumW_app {α : Type} (f : α → Nat) (a b:List α):sumW f (a++b)=sumW f a+sumW f b:=by simp only [sumW,List.map_append,List.sum_append]
theorem sumW_one {α : Type} (f : α → Nat) (l:List α):sumW (fun x=>1+f x) l=slW f l:=by
 induction l with
 | nil=>rfl
 | cons x l ih=>simp only [slW,sumW,List.map_cons,List.sum_cons,List.length_cons] at *;omega
mutual
def PE.ms (op:Nat→Nat→Nat):PE→Nat
 | .mk _ _ _ _ _ _ kids sub=>1+op (PE.msL op kids) (PE.msS op sub)
def PE.msL (op:Nat→Nat→Nat):List PE→Nat
 | []=>0
 | x::xs=>op (PE.ms op x) (PE.msL op xs)
def PE.msS (op:Nat→Nat→Nat):List (PlanOf PE)→Nat
 | []=>0
 | x::xs=>op (PE.msP op x) (PE.msS op xs)
def PE.msP (op:Nat→Nat→Nat):PlanOf PE→Nat
 | ⟨_,on,w,o,i,_,_,_⟩=>op (op (op (PE.msLL op on) (PE.msL op w)) (PE.msO op o)) (PE.msL op i)
def PE.msLL (op:Nat→Nat→Nat):List (List PE)→Nat
 | []=>0
 | x::xs=>op (PE.msL op x) (PE.msLL op xs)
def PE.msO (op:Nat→Nat→Nat):List (PE × Bool)→Nat
 | []=>0
 | x::xs=>op (PE.ms1 op x) (PE.msO op xs)
def PE.ms1 (op:Nat→Nat→Nat):PE × Bool→Nat
 |(e,_)=>PE.ms op e
end
theorem PE.msL_eq (op:Nat→Nat→Nat):∀ l:List PE,PE.msL op l=foldW op (PE.ms op) l
 | []=>rfl
 | x::l=>by simp only [PE.msL,PE.msL_eq op l,foldW]
theorem PE.msS_eq (op:Nat→Nat→Nat):∀ l:List PL,PE.msS op l=foldW op (PE.msP op) l
 | []=>rfl
 | x::l=>by simp only [PE.msS,PE.msS_eq op l,foldW]
theorem PE.msLL_eq (op:Nat→Nat→Nat):∀ l:List (List PE),PE.msLL op l=foldW op (foldW op (PE.ms op)) l
 | []=>rfl
 | x::l=>by simp only [PE.msLL,PE.msLL_eq op l,foldW,PE.msL_eq]
theorem PE.msO_eq (op:Nat→Nat→Nat):∀ l:List (PE × Bool),PE.msO op l=foldW op (fun x=>PE.ms op x.1) l
 | []=>rfl
 | x::l=>by
   obtain ⟨e,b⟩:=x
   simp only [PE.msO,PE.msO_eq op l,foldW,PE.ms1]
theorem PE.ms_eq (op:Nat→Nat→Nat) (x:PE):x.ms op=1+op (foldW op (PE.ms op) x.kids) (foldW op (PE.msP op) x.sub):=by
 cases x
 simp only [PE.ms,PE.msL_eq,PE.msS_eq,PE.kids,PE.sub]
theorem PE.msP_eq {op:Nat→Nat→Nat} (h:OpOk op) (p:PL):PE.msP op p=foldW op (PE.ms op) p.parts:=by
 obtain ⟨t,on,w,o,i,n,d,l⟩:=p
 simp only [PE.msP,PlanOf.parts,foldW_append h,foldW_flatten h,foldW_map,PE.msL_eq,PE.msLL_eq,PE.msO_eq]
theorem PL.parts_w (p:PL):sumW (fun k=>1+wgt k.v) p.parts≤wgt p.v:=by
 have e:=PL.wgt_eq p
 have e1:wgt (.sl 0 (p.wher.map PE.toV))=sumW (fun k=>1+wgt k.v) p.wher:=by rw [wgt_sl,sumW_one];simp only [PE.toV_eq]
 have e2:wgt (.sl 0 (p.items.map PE.toV))=sumW (fun k=>1+wgt k.v) p.items:=by rw [wgt_sl,sumW_one];simp only [PE.toV_eq]
 have e3:wgt (.sl 0 (p.order.map PE.sv))=sumW (fun k=>1+wgt k.v) (p.order.map (·.1)):=by
   rw [wgt_sl,sumW_one]
   simp only [PE.wgt_eqs,slW,sumW,List.length_map,List.map_map]
   rfl
 have e4:sumW (fun k=>1+wgt k.v) p.on.flatten≤wgt (.sl 0 (p.on.map PE.vS)):=by
   rw [wgt_sl]
   generalize p.on=on
   induction on with
   | nil=>simp [sumW]
   | cons x on ih =>
     have ex:wgt (PE.vS x)=sumW (fun k=>1+wgt k.v) x:=by unfold PE.vS;rw [wgt_sl,sumW_one];simp only [PE.toV_eq]
     rw [List.flatten_cons,sumW_app]
     simp only [slW,sumW,List.map_cons,List.sum_cons,List.length_cons] at *
     omega
 simp only [PlanOf.parts,sumW_app]
 omega
theorem sumW_len {α : Type} (f : α → Nat) (l:List α):l.length≤sumW (fun k=>1+f k) l:=by
 rw [sumW_one];exact len_slW f l
theorem PL.parts_len (p:PL):p.parts.length≤wgt p.v:=Nat.le_trans (sumW_len _ _) (PL.parts_w p)
theorem kids_w (l:List PE):sumW (fun k=>1+wgt k.v) l=wgt (.sl 0 (l.map PE.toV)):=by rw [wgt_sl,sumW_one];simp only [PE.toV_eq]
theorem sub_w (l:List PL):sumW (fun k=>wgt (PL.v k)) l≤wgt (.sl 0 (l.map PE.planV)):=by
 rw [wgt_sl]
 simp only [PE.planV_eq,slW]
 exact Nat.le_add_left _ _
theorem PE.ms_le {op:Nat→Nat→Nat} (h:OpOk op) (x:PE):x.ms op≤1+wgt x.v:=by
 induction x using PE.ind with
 | h e ih1 ih2 =>
   have e1:=PE.wgt_eq2 e
   have e2:=foldW_le h (PE.ms op) e.kids
   have e3:=sumW_mono (f:=PE.ms op) (g:=fun k=>1+wgt k.v) (l:=e.kids) ih1
   have e4:=foldW_le h (PE.msP op) e.sub
   have e5:=sumW_mono (f:=PE.msP op) (g:=fun p:PL=>wgt (PL.v p)) (l:=e.sub) fun p hp=>by
     rw [PE.msP_eq h]
     exact Nat.le_trans (foldW_le h _ _) (Nat.le_trans (sumW_mono (ih2 p hp)) (PL.parts_w p))
   have e6:=kids_w e.kids
   have e7:sumW (fun p:PL=>wgt (PL.v p)) e.sub≤_:=sub_w e.sub
   have e8:=h.le (foldW op (PE.ms op) e.kids) (foldW op (PE.msP op) e.sub)
   rw [PE.ms_eq]
   omega
theorem PL.ms_le {op:Nat→Nat→Nat} (h:OpOk op) (p:PL):PE.msP op p≤wgt p.v:=by
 rw [PE.msP_eq h]
 exact Nat.le_trans (foldW_le h _ _) (Nat.le_trans (sumW_mono fun k _=>PE.ms_le h k) (PL.parts_w p))
theorem PL.on_le (p:PL):p.on.length≤wgt p.v:=by
 have e:=PL.wgt_eq p
 have:=wgt_len PE.vS p.on
 omega
theorem on_len (p:PL) (i:Nat):(p.on.take i).flatten.length≤p.parts.length:=by
 have:p.on.flatten=(p.on.take i).flatten++(p.on.drop i).flatten:=by rw [← List.flatten_append,List.take_append_drop]
 simp only [PlanOf.parts,this,List.length_append]
 omega
def MsC (P:Program) (g:FuncId) (op:Nat→Nat→Nat) (e:PE):Prop:=∀ s:S,VCalls P g [e.v] s (fun v s'=>v = .int .i64 (e.ms op:Nat)∧s'=s)
theorem PE.els (te:Ty) (h:∀ x:PE,elemsA te [PE.v x]=true) (l:List PE):Elems te (l.map PE.toV):=Elems.map fun x=>by rw [PE.toV_eq];exact h x
theorem implParts_v (p:PL) (hw:wgt p.v≤1048576) (s:S):VCalls Try.prog 46 [p.v] s (fun v s'=>v = .sl 0 (p.parts.map PE.toV)∧s'=s):=by
 have hlen:=PL.parts_len p
 have hon0:=PL.on_le p
 have hpl:p.parts.length=p.on.flatten.length+p.wher.length+p.order.length+p.items.length:=by simp only [PlanOf.parts,List.length_append,List.length_map]
 refine LCalls.pure Try.func46 rfl (by kernel_rfl) (plain_dat _ (plain_PExprS _)) ?_
 repeat' first |(refine kOps ?_;first |(refine LOps.nil ?_) |(refine LOps.ev tT_ok rfl ?_) |(refine kBox ?_;refine LOps.box rfl rfl rfl rfl ?_) |(refine kBsl ?_;first |(refine LOps.bsl0 tT_ok rfl rfl rfl rfl rfl ?_)) |(refine kLoad ?_;first |(refine LOps.ans (AnsL.loadP tT_ok rfl rfl rfl rfl) ?_)) |(refine kLen ?_;first |(refine LOps.ans (AnsL.lenM tT_ok rfl rfl rfl) ?_))) |(refine kWL ?_;first |(refine WL.seq ?_) |(refine WL.region (by kernel_rfl) ?_) |(refine WL.block ?_)) |(refine lthen_n ?_)
 refine WL.zfam (t:=3) 10 rfl rfl rfl rfl ?_
 refine WL.loopD (fun i:Nat=>p.on.length - i) (fun i=>[(1,.ptr (s.next+0) 0),(3,.sl (s.next+1) ((p.on.take i).flatten.map PE.toV)),(10,.sl 0 (p.on.map PE.vS)),(11,.int .i64 p.on.length),(12,.int .i64 (i:Int))]) (fun i=>[.var p.v.cells,.fam (p.on.take i).flatten.length 10])
   (fun i=>i≤p.on.length) 2 0 (by simp) (fun _=>rfl) ⟨rfl,rfl,rfl,rfl,rfl,trivial⟩ rfl (fun i hi=>?_) (fun i hi=>?_)
 · generalize (p.on.take i).flatten=us
   simp [UnderK,UnderX,Own.under,V.under,V.underL,PL.v,V.cells]
 have hon:=on_len p i
 rcases Nat.lt_or_ge i p.on.length with hlt | hge
 · have hon2:=on_len p (i+1)
   rw [List.take_succ_eq_append_getElem hlt,List.flatten_append,List.length_append,List.flatten_cons,List.flatten_nil,List.append_nil] at hon2
   have hga:(p.on.map PE.vS)[i]?=some (PE.vS p.on[i]):=by rw [List.getElem?_map,List.getElem?_eq_getElem hlt];rfl
   have ht:(p.on.take (i+1)).flatten=(p.on.take i).flatten++p.on[i]:=by rw [List.take_succ_eq_append_getElem hlt,List.flatten_append,List.flatten_cons,List.flatten_nil,List.append_nil]
   generalize p.on[i]=l at hga ht hon2
   generalize (p.on.take i).flatten=us at hon hon2 ht ⊢
   repeat' first |(refine kOps ?_;first |(refine LOps.nil ?_) |(refine LOps.ev tT_ok rfl ?_) |(refine kApp ?_;first |(refine LOps.app tT_ok rfl rfl rfl rfl rfl rfl rfl rfl rfl rfl rfl ?_ ?_ (AppB.of ?_ rfl) ?_;(focus (first | rfl |(simp <;> fail)));(focus (first | exact Elems.of rfl | exact Elems.map fun _=>rfl | exact PE.els _ (fun _=>rfl) _));(focus (first | omega |(simp;omega))))) |(refine kBin ?_;first |(refine LOps.ans (AnsL.add rfl rfl ?_) ?_;(focus (constructor <;> omega)))) |(refine kIdx ?_;first |(refine LOps.ans (AnsL.idx tT_ok rfl rfl rfl rfl rfl hga rfl rfl) ?_))) |(refine kWL ?_;first |(refine WL.seq ?_) |(refine WL.region (by kernel_rfl) ?_) |(refine WL.block ?_) |(refine WL.skip ?_) |(refine kCond ?_;first |(refine WL.condT' rfl ?_ ?_;(focus (first |(simp <;> omega)))))) |(refine lthen_n ?_) |(refine lblock_n ?_)
   refine lbackD.of (i+1) ?_ ?_ ?_ ?_
   · omega
   · omega
   · rw [ht,List.map_append]
     repeat' first | exact SubL.nil |(refine SubL.mk rfl ?_ ?_) | rfl |(simp <;> fail) |(simp;omega)
   · rw [ht,List.length_append]
     simp [PL.v,V.cells]
 · rw [List.take_of_length_le hge] at hon ⊢
   generalize hfl:p.on.flatten=fl at hpl hon ⊢
   repeat' first |(refine kOps ?_;first |(refine LOps.nil ?_) |(refine LOps.ev tT_ok rfl ?_) |(refine kApp ?_;first |(refine LOps.app tT_ok rfl rfl rfl rfl rfl rfl rfl rfl rfl rfl rfl ?_ ?_ (AppB.of ?_ rfl) ?_;(focus (first | rfl |(simp <;> fail)));(focus (first | exact Elems.of rfl | exact Elems.map fun _=>rfl | exact PE.els _ (fun _=>rfl) _));(focus (first | omega |(simp;omega))))) |(refine kLoad ?_;first |(refine LOps.ans (AnsL.loadP tT_ok rfl rfl rfl rfl) ?_)) |(refine kLen ?_;first |(refine LOps.ans (AnsL.lenM tT_ok rfl rfl rfl) ?_))) |(refine kWL ?_;first |(refine WL.seq ?_) |(refine WL.region (by kernel_rfl) ?_) |(refine WL.block ?_) |(refine WL.exit ?_) |(refine kCond ?_;first |(refine WL.condF' rfl ?_ ?_;(focus (first |(simp <;> omega)))))) |(refine lthen_n ?_) |(refine lthen_e ?_) |(refine lblock_e ?_) |(refine lbackD_e ?_)
   refine WL.loopD (fun i:Nat=>p.order.length - i) (fun i=>[(1,.ptr (s.next+0) 0),(3,.sl (s.next+1) ((fl++p.wher++(p.order.take i).map (·.1)).map PE.toV)),(25,.sl 0 (p.order.map PE.sv)),(26,.int .i64 p.order.length),(27,.int .i64 (i:Int))]) (fun i=>[.var p.v.cells,.fam (fl++p.wher++(p.order.take i).map (·.1)).length 10])
     (fun i=>i≤p.order.length) 2 0 (by simp) (fun _=>rfl) ?_ ?_ (fun i hi=>?_) (fun i hi=>?_)
   · simp only [List.take_zero,List.map_nil,List.append_nil,List.map_append]
     exact ⟨rfl,rfl,rfl,rfl,rfl,trivial⟩
   · simp [PL.v,V.cells]
   · generalize fl++p.wher++(p.order.take i).map (·.1)=us
     simp [UnderK,UnderX,Own.under,V.under,V.underL,PL.v,V.cells]
   have hol:(fl++p.wher++(p.order.take i).map (·.1)).length=fl.length+p.wher.length+i:=by simp;omega
   rcases Nat.lt_or_ge i p.order.length with hlt | hge2
   · have hga:(p.order.map PE.sv)[i]?=some (PE.sv p.order[i]):=by rw [List.getElem?_map,List.getElem?_eq_getElem hlt];rfl
     have ht:fl++p.wher++(p.order.take (i+1)).map (·.1)=(fl++p.wher++(p.order.take i).map (·.1))++[p.order[i].1]:=by
       rw [List.take_succ_eq_append_getElem hlt,List.map_append, ← List.append_assoc]
       rfl
     generalize fl++p.wher++(p.order.take i).map (·.1)=us at hol ht ⊢
     generalize p.order[i]=x at hga ht
     repeat' first |(refine kOps ?_;first |(refine LOps.nil ?_) |(refine kStore ?_;refine LOps.storeP tT_ok rfl rfl rfl rfl rfl rfl rfl rfl rfl ?_) |(refine LOps.ev tT_ok rfl ?_) |(refine kAlloc ?_;refine LOps.alloc tT_ok rfl rfl rfl rfl ?_) |(refine kBsl ?_;first |(refine LOps.bsl tT_ok rfl rfl rfl rfl rfl rfl rfl rfl rfl rfl rfl ?_)) |(refine kApp ?_;first |(refine LOps.app tT_ok rfl rfl rfl rfl rfl rfl rfl rfl rfl rfl rfl ?_ ?_ (AppB.of ?_ rfl) ?_;(focus (first | rfl |(simp <;> fail)));(focus (first | exact Elems.of rfl | exact Elems.map fun _=>rfl | exact PE.els _ (fun _=>rfl) _));(focus (first | omega |(simp;omega))))) |(refine kLoad ?_;first |(refine LOps.ans (AnsL.loadP tT_ok rfl rfl rfl rfl) ?_)) |(refine kBin ?_;first |(refine LOps.ans (AnsL.add rfl rfl ?_) ?_;(focus (constructor <;> omega)))) |(refine kIdx ?_;first |(refine LOps.ans (AnsL.idx tT_ok rfl rfl rfl rfl rfl hga rfl rfl) ?_))) |(refine kWL ?_;first |(refine WL.seq ?_) |(refine WL.region (by kernel_rfl) ?_) |(refine WL.block ?_) |(refine WL.skip ?_) |(refine kCond ?_;first |(refine WL.condT' rfl ?_ ?_;(focus (first |(simp <;> omega)))))) |(refine lthen_n ?_) |(refine lblock_n ?_)
     refine lbackD.of (i+1) ?_ ?_ ?_ ?_
     · omega
     · omega
     · rw [ht,List.map_append,List.map_cons,List.map_nil,PE.toV_eq]
       repeat' first | exact SubL.nil |(refine SubL.mk rfl ?_ ?_) | rfl |(simp <;> fail) |(simp;omega)
     · rw [ht,List.length_append]
       simp [PL.v,V.cells]
   · rw [List.take_of_length_le hge2] at hol ⊢
     repeat' first |(refine kOps ?_;first |(refine LOps.nil ?_) |(refine LOps.ev tT_ok rfl ?_) |(refine kApp ?_;first |(refine LOps.app tT_ok rfl rfl rfl rfl rfl rfl rfl rfl rfl rfl rfl ?_ ?_ (AppB.of ?_ rfl) ?_;(focus (first | rfl |(simp <;> fail)));(focus (first | exact Elems.of rfl | exact Elems.map fun _=>rfl | exact PE.els _ (fun _=>rfl) _));(focus (first | omega |(simp;omega))))) |(refine kLoad ?_;first |(refine LOps.ans (AnsL.loadP tT_ok rfl rfl rfl rfl) ?_))) |(refine kWL ?_;first |(refine WL.seq ?_) |(refine WL.region (by kernel_rfl) ?_) |(refine WL.exit ?_) |(refine WL.ret ?_) |(refine kCond ?_;first |(refine WL.condF' rfl ?_ ?_;(focus (first |(simp <;> omega)))))) |(refine lthen_n ?_) |(refine lthen_e ?_) |(refine lblock_e ?_) |(refine lbackD_e ?_) |(refine LPost.r1 (r := .tmp 2) (.inl rfl) (Res1.tmp rfl) ?_) |(refine PureR.mk ?_)
     simp only [PlanOf.parts,hfl,List.map_append,V.forget,V.forgetL_eq,List.append_assoc]
     have hfg:∀ l:List PE,(l.map PE.toV).map V.forget=l.map PE.toV:=fun l=>by
       have:=plain_forget _ (plain_PExprS l)
       simp only [V.forget,V.forgetL_eq,V.sl.injEq,true_and] at this
       exact this
     simp only [hfg]
theorem specParts_v (p:PL) (hw:wgt p.v≤1048576) (s:S):VCalls Try.prog 48 [p.v] s (fun v s'=>v = .sl 0 (p.parts.map PE.toV)∧s'=s):=by
 have hlen:=PL.parts_len p
 have hon0:=PL.on_le p
 have hpl:p.parts.length=p.on.flatten.length+p.wher.length+p.order.length+p.items.length:=by simp only [PlanOf.parts,List.length_append,List.length_map]
 refine LCalls.pure Try.func48 rfl (by kernel_rfl) (plain_dat _ (plain_PExprS _)) ?_
 repeat' first |(refine kOps ?_;first |(refine LOps.nil ?_) |(refine LOps.ev tT_ok rfl ?_) |(refine kBox ?_;refine LOps.box rfl rfl rfl rfl ?_) |(refine kBsl ?_;first |(refine LOps.bsl0 tT_ok rfl rfl rfl rfl rfl ?_))) |(refine kWL ?_;first |(refine WL.seq ?_) |(refine WL.region (by kernel_rfl) ?_) |(refine WL.block ?_)) |(refine lthen_n ?_)
 refine WL.zfam (t:=3) 10 rfl rfl rfl rfl ?_
 refine WL.loopD (fun i:Nat=>p.on.length - i) (fun i=>[(1,.ptr (s.next+0) 0),(3,.sl (s.next+1) ((p.on.take i).flatten.map PE.toV)),(4,.int .i64 (i:Int))]) (fun i=>[.var p.v.cells,.fam (p.on.take i).flatten.length 10])
   (fun i=>i≤p.on.length) 2 0 (by simp) (fun _=>rfl) ⟨rfl,rfl,rfl,trivial⟩ rfl (fun i hi=>?_) (fun i hi=>?_)
 · generalize (p.on.take i).flatten=us
   simp [UnderK,UnderX,Own.under,V.under,V.underL,PL.v,V.cells]
 have hon:=on_len p i
 rcases Nat.lt_or_ge i p.on.length with hlt | hge
 · have hon2:=on_len p (i+1)
   rw [List.take_succ_eq_append_getElem hlt,List.flatten_append,List.length_append,List.flatten_cons,List.flatten_nil,List.append_nil] at hon2
   have hga:(p.on.map PE.vS)[i]?=some (PE.vS p.on[i]):=by rw [List.getElem?_map,List.getElem?_eq_getElem hlt];rfl
   have ht:(p.on.take (i+1)).flatten=(p.on.take i).flatten++p.on[i]:=by rw [List.take_succ_eq_append_getElem hlt,List.flatten_append,List.flatten_cons,List.flatten_nil,List.append_nil]
   generalize p.on[i]=l at hga ht hon2
   generalize (p.on.take i).flatten=us at hon hon2 ht ⊢
   repeat' first |(refine kOps ?_;first |(refine LOps.nil ?_) |(refine LOps.ev tT_ok rfl ?_) |(refine kApp ?_;first |(refine LOps.app tT_ok rfl rfl rfl rfl rfl rfl rfl rfl rfl rfl rfl ?_ ?_ (AppB.of ?_ rfl) ?_;(focus (first | rfl |(simp <;> fail)));(focus (first | exact Elems.of rfl | exact Elems.map fun _=>rfl | exact PE.els _ (fun _=>rfl) _));(focus (first | omega |(simp;omega))))) |(refine kLoad ?_;first |(refine LOps.ans (AnsL.loadP tT_ok rfl rfl rfl rfl) ?_)) |(refine kLen ?_;first |(refine LOps.ans (AnsL.lenM tT_ok rfl rfl rfl) ?_)) |(refine kBin ?_;first |(refine LOps.ans (AnsL.add rfl rfl ?_) ?_;(focus (constructor <;> omega)))) |(refine kIdx ?_;first |(refine LOps.ans (AnsL.idx tT_ok rfl rfl rfl rfl rfl hga rfl rfl) ?_))) |(refine kWL ?_;first |(refine WL.seq ?_) |(refine WL.region (by kernel_rfl) ?_) |(refine WL.block ?_) |(refine WL.skip ?_) |(refine kCond ?_;first |(refine WL.condT' rfl ?_ ?_;(focus (first |(simp <;> omega)))))) |(refine lthen_n ?_) |(refine lblock_n ?_)
   refine lbackD.of (i+1) ?_ ?_ ?_ ?_
   · omega
   · omega
   · rw [ht,List.map_append]
     repeat' first | exact SubL.nil |(refine SubL.mk rfl ?_ ?_) | rfl |(simp <;> fail) |(simp;omega)
   · rw [ht,List.length_append]
     simp [PL.v,V.cells]
 · rw [List.take_of_length_le hge] at hon ⊢
   generalize hfl:p.on.flatten=fl at hpl hon ⊢
   repeat' first |(refine kOps ?_;first |(refine LOps.nil ?_) |(refine LOps.ev tT_ok rfl ?_) |(refine kApp ?_;first |(refine LOps.app tT_ok rfl rfl rfl rfl rfl rfl rfl rfl rfl rfl rfl ?_ ?_ (AppB.of ?_ rfl) ?_;(focus (first | rfl |(simp <;> fail)));(focus (first | exact Elems.of rfl | exact Elems.map fun _=>rfl | exact PE.els _ (fun _=>rfl) _));(focus (first | omega |(simp;omega))))) |(refine kLoad ?_;first |(refine LOps.ans (AnsL.loadP tT_ok rfl rfl rfl rfl) ?_)) |(refine kLen ?_;first |(refine LOps.ans (AnsL.lenM tT_ok rfl rfl rfl) ?_))) |(refine kWL ?_;first |(refine WL.seq ?_) |(refine WL.region (by kernel_rfl) ?_) |(refine WL.block ?_) |(refine WL.exit ?_) |(refine kCond ?_;first |(refine WL.condF' rfl ?_ ?_;(focus (first |(simp <;> omega)))))) |(refine lthen_n ?_) |(refine lthen_e ?_) |(refine lblock_e ?_) |(refine lbackD_e ?_)
   refine WL.loopD (fun i:Nat=>p.order.length - i) (fun i=>[(1,.ptr (s.next+0) 0),(3,.sl (s.next+1) ((fl++p.wher++(p.order.take i).map (·.1)).map PE.toV)),(5,.int .i64 (i:Int))]) (fun i=>[.var p.v.cells,.fam (fl++p.wher++(p.order.take i).map (·.1)).length 10])
     (fun i=>i≤p.order.length) 2 0 (by simp) (fun _=>rfl) ?_ ?_ (fun i hi=>?_) (fun i hi=>?_)
   · simp only [List.take_zero,List.map_nil,List.append_nil,List.map_append]
     exact ⟨rfl,rfl,rfl,trivial⟩
   · simp [PL.v,V.cells]
   · generalize fl++p.wher++(p.order.take i).map (·.1)=us
     simp [UnderK,UnderX,Own.under,V.under,V.underL,PL.v,V.cells]
   have hol:(fl++p.wher++(p.order.take i).map (·.1)).length=fl.length+p.wher.length+i:=by simp;omega
   rcases Nat.lt_or_ge i p.order.length with hlt | hge2
   · have hga:(p.order.map PE.sv)[i]?=some (PE.sv p.order[i]):=by rw [List.getElem?_map,List.getElem?_eq_getElem hlt];rfl
     have ht:fl++p.wher++(p.order.take (i+1)).map (·.1)=(fl++p.wher++(p.order.take i).map (·.1))++[p.order[i].1]:=by
       rw [List.take_succ_eq_append_getElem hlt,List.map_append, ← List.append_assoc]
       rfl
     generalize fl++p.wher++(p.order.take i).map (·.1)=us at hol ht ⊢
     generalize p.order[i]=x at hga ht
     repeat' first |(refine kOps ?_;first |(refine LOps.nil ?_) |(refine LOps.ev tT_ok rfl ?_) |(refine kBsl ?_;first |(refine LOps.bsl tT_ok rfl rfl rfl rfl rfl rfl rfl rfl rfl rfl rfl ?_)) |(refine kApp ?_;first |(refine LOps.app tT_ok rfl rfl rfl rfl rfl rfl rfl rfl rfl rfl rfl ?_ ?_ (AppB.of ?_ rfl) ?_;(focus (first | rfl |(simp <;> fail)));(focus (first | exact Elems.of rfl | exact Elems.map fun _=>rfl | exact PE.els _ (fun _=>rfl) _));(focus (first | omega |(simp;omega))))) |(refine kLoad ?_;first |(refine LOps.ans (AnsL.loadP tT_ok rfl rfl rfl rfl) ?_)) |(refine kLen ?_;first |(refine LOps.ans (AnsL.lenM tT_ok rfl rfl rfl) ?_)) |(refine kBin ?_;first |(refine LOps.ans (AnsL.add rfl rfl ?_) ?_;(focus (constructor <;> omega)))) |(refine kIdx ?_;first |(refine LOps.ans (AnsL.idx tT_ok rfl rfl rfl rfl rfl hga rfl rfl) ?_))) |(refine kWL ?_;first |(refine WL.seq ?_) |(refine WL.region (by kernel_rfl) ?_) |(refine WL.block ?_) |(refine WL.skip ?_) |(refine kCond ?_;first |(refine WL.condT' rfl ?_ ?_;(focus (first |(simp <;> omega)))))) |(refine lthen_n ?_) |(refine lblock_n ?_)
     refine lbackD.of (i+1) ?_ ?_ ?_ ?_
     · omega
     · omega
     · rw [ht,List.map_append,List.map_cons,List.map_nil,PE.toV_eq]
       repeat' first | exact SubL.nil |(refine SubL.mk rfl ?_ ?_) | rfl |(simp <;> fail) |(simp;omega)
     · rw [ht,List.length_append]
       simp [PL.v,V.cells]
   · rw [List.take_of_length_le hge2] at hol ⊢
     repeat' first |(refine kOps ?_;first |(refine LOps.nil ?_) |(refine LOps.ev tT_ok rfl ?_) |(refine kApp ?_;first |(refine LOps.app tT_ok rfl rfl rfl rfl rfl rfl rfl rfl rfl rfl rfl ?_ ?_ (AppB.of ?_ rfl) ?_;(focus (first | rfl |(simp <;> fail)));(focus (first | exact Elems.of rfl | exact Elems.map fun _=>rfl | exact PE.els _ (fun _=>rfl) _));(focus (first | omega |(simp;omega))))) |(refine kLoad ?_;first |(refine LOps.ans (AnsL.loadP tT_ok rfl rfl rfl rfl) ?_)) |(refine kLen ?_;first |(refine LOps.ans (AnsL.lenM tT_ok rfl rfl rfl) ?_))) |(refine kWL ?_;first |(refine WL.seq ?_) |(refine WL.region (by kernel_rfl) ?_) |(refine WL.exit ?_) |(refine WL.ret ?_) |(refine kCond ?_;first |(refine WL.condF' rfl ?_ ?_;(focus (first |(simp <;> omega)))))) |(refine lthen_n ?_) |(refine lthen_e ?_) |(refine lblock_e ?_) |(refine lbackD_e ?_) |(refine LPost.r1 (r := .tmp 2) (.inl rfl) (Res1.tmp rfl) ?_) |(refine PureR.mk ?_)
     simp only [PlanOf.parts,hfl,List.map_append,V.forget,V.forgetL_eq,List.append_assoc]
     have hfg:∀ l:List PE,(l.map PE.toV).map V.forget=l.map PE.toV:=fun l=>by
       have:=plain_forget _ (plain_PExprS l)
       simp only [V.forget,V.forgetL_eq,V.sl.injEq,true_and] at this
       exact this
     simp only [hfg]
end Go.Proofs.Ytolhegocbkckdaa
