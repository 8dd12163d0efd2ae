/-
 Parts, sizes and depths of plans, of the program and of the reference, and the laws. Printed by a program of our own; no condition.
-/
import Derived.Test.YtolhegocbkckdaaGreatMg33
namespace Go.Proofs.YtolhegocbkckdaaGreat
open Go
set_option linter.unusedSimpArgs false
set_option linter.unusedVariables false
def xq (op:Nat→Nat→Nat) {α : Type} (f : α → Nat):List α → Nat
 | []=>0
 | x::l=>op (f x) (xq op f l)
structure Y5 (op:Nat→Nat→Nat):Prop where
 assoc:∀ a b c,op (op a b) c=op a (op b c)
 z1:∀ a,op 0 a=a
 z2:∀ a,op a 0=a
 le:∀ a b,op a b≤a+b
theorem vX:Y5 (fun a b=>a+b):=⟨Nat.add_assoc,Nat.zero_add,Nat.add_zero,fun _ _=>Nat.le_refl _⟩
theorem vK:Y5 (fun a b=>max a b):=⟨Nat.max_assoc,Nat.zero_max,Nat.max_zero,fun a b=>by omega⟩
section
variable {op:Nat→Nat→Nat} (h:Y5 op)
include h
theorem eY {α : Type} (f : α → Nat) (a b:List α):xq op f (a++b)=op (xq op f a) (xq op f b):=by
 induction a with
 | nil=>simp only [List.nil_append,xq,h.z1]
 | cons x a ih=>simp only [List.cons_append,xq,ih,h.assoc]
theorem vo {α : Type} (f : α → Nat) {l:List α} {i:Nat} (hi:i<l.length):xq op f (l.take (i+1))=op (xq op f (l.take i)) (f l[i]):=by
 rw [List.take_succ_eq_append_getElem hi,eY h]
 simp only [xq,h.z2]
theorem vJ {α : Type} (f : α → Nat) (l:List α):xq op f l≤kM f l:=by
 induction l with
 | nil=>simp [xq,kM]
 | cons x l ih =>
   have:=h.le (f x) (xq op f l)
   simp only [xq,kM,List.map_cons,List.sum_cons] at *
   omega
theorem qN {α : Type} (f : α → Nat) (l:List α) (i:Nat):xq op f (l.take i)≤kM f l:=Nat.le_trans (vJ h f _) (dS f l i)
theorem Qc {α : Type} (f : α → Nat) (l:List (List α)):xq op f l.flatten=xq op (xq op f) l:=by
 induction l with
 | nil=>rfl
 | cons x l ih=>simp only [List.flatten_cons,eY h,ih,xq]
end
theorem Y6 {op:Nat→Nat→Nat} {α β : Type} (f : β → Nat) (g : α → β) (l:List α):xq op f (l.map g)=xq op (fun x=>f (g x)) l:=by
 induction l with
 | nil=>rfl
 | cons x l ih=>simp only [List.map_cons,xq,ih]
theorem x9 {α : Type} {f g : α → Nat}:∀ {l:List α},(∀ x∈l,f x≤g x)→kM f l≤kM g l
 | [],_=>Nat.le_refl _
 | x::l,h=>by
   have h1:=h x (by simp)
   have h2:=x9 (l:=l) fun y hy=>h y (by simp [hy])
   simp only [kM,List.map_cons,List.sum_cons] at *
   omega
theorem Jl {α : Type} (f : α → Nat) (a b:List α):kM f (a++b)=kM f a+kM f b:=by simp only [kM,List.map_append,List.sum_append]
theorem yK {α : Type} (f : α → Nat) (l:List α):kM (fun x=>1+f x) l=bY f l:=by
 induction l with
 | nil=>rfl
 | cons x l ih=>simp only [bY,kM,List.map_cons,List.sum_cons,List.length_cons] at *;omega
mutual
def PE.ms (op:Nat→Nat→Nat):PE→Nat
 | .mk _ _ _ _ _ _ kids sub=>1+op (PE.EB op kids) (PE.Mr op sub)
def PE.EB (op:Nat→Nat→Nat):List PE→Nat
 | []=>0
 | x::xs=>op (PE.ms op x) (PE.EB op xs)
def PE.Mr (op:Nat→Nat→Nat):List (qZ PE)→Nat
 | []=>0
 | x::xs=>op (PE.yU op x) (PE.Mr op xs)
def PE.yU (op:Nat→Nat→Nat):qZ PE→Nat
 | ⟨_,on,w,o,i,_,_,_⟩=>op (op (op (PE.Cj op on) (PE.EB op w)) (PE.Ms op o)) (PE.EB op i)
def PE.Cj (op:Nat→Nat→Nat):List (List PE)→Nat
 | []=>0
 | x::xs=>op (PE.EB op x) (PE.Cj op xs)
def PE.Ms (op:Nat→Nat→Nat):List (PE × Bool)→Nat
 | []=>0
 | x::xs=>op (PE.ms1 op x) (PE.Ms op xs)
def PE.ms1 (op:Nat→Nat→Nat):PE × Bool→Nat
 |(e,_)=>PE.ms op e
end
theorem PE.X5 (op:Nat→Nat→Nat):∀ l:List PE,PE.EB op l=xq op (PE.ms op) l
 | []=>rfl
 | x::l=>by simp only [PE.EB,PE.X5 op l,xq]
theorem PE.Ag (op:Nat→Nat→Nat):∀ l:List PL,PE.Mr op l=xq op (PE.yU op) l
 | []=>rfl
 | x::l=>by simp only [PE.Mr,PE.Ag op l,xq]
theorem PE.WR (op:Nat→Nat→Nat):∀ l:List (List PE),PE.Cj op l=xq op (xq op (PE.ms op)) l
 | []=>rfl
 | x::l=>by simp only [PE.Cj,PE.WR op l,xq,PE.X5]
theorem PE.Ah (op:Nat→Nat→Nat):∀ l:List (PE × Bool),PE.Ms op l=xq op (fun x=>PE.ms op x.1) l
 | []=>rfl
 | x::l=>by
   obtain ⟨e,b⟩:=x
   simp only [PE.Ms,PE.Ah op l,xq,PE.ms1]
theorem PE.Jm (op:Nat→Nat→Nat) (x:PE):x.ms op=1+op (xq op (PE.ms op) x.kids) (xq op (PE.yU op) x.sub):=by
 cases x
 simp only [PE.ms,PE.X5,PE.Ag,PE.kids,PE.sub]
theorem PE.pU {op:Nat→Nat→Nat} (h:Y5 op) (p:PL):PE.yU op p=xq op (PE.ms op) p.parts:=by
 obtain ⟨t,on,w,o,i,n,d,l⟩:=p
 simp only [PE.yU,qZ.parts,eY h,Qc h,Y6,PE.X5,PE.WR,PE.Ah]
theorem PL.vO (p:PL):kM (fun k=>1+qV k.v) p.parts≤qV p.v:=by
 have e:=PL.qC p
 have e1:qV (.sl 0 (p.xO.map PE.zF))=kM (fun k=>1+qV k.v) p.xO:=by rw [wN,yK];simp only [PE.qK]
 have e2:qV (.sl 0 (p.items.map PE.zF))=kM (fun k=>1+qV k.v) p.items:=by rw [wN,yK];simp only [PE.qK]
 have e3:qV (.sl 0 (p.order.map PE.sv))=kM (fun k=>1+qV k.v) (p.order.map (·.1)):=by
   rw [wN,yK]
   simp only [PE.sW,bY,kM,List.length_map,List.map_map]
   rfl
 have e4:kM (fun k=>1+qV k.v) p.on.flatten≤qV (.sl 0 (p.on.map PE.vS)):=by
   rw [wN]
   generalize p.on=on
   induction on with
   | nil=>simp [kM]
   | cons x on ih =>
     have ex:qV (PE.vS x)=kM (fun k=>1+qV k.v) x:=by unfold PE.vS;rw [wN,yK];simp only [PE.qK]
     rw [List.flatten_cons,Jl]
     simp only [bY,kM,List.map_cons,List.sum_cons,List.length_cons] at *
     omega
 simp only [qZ.parts,Jl]
 omega
theorem ZK {α : Type} (f : α → Nat) (l:List α):l.length≤kM (fun k=>1+f k) l:=by
 rw [yK];exact jA f l
theorem PL.vV (p:PL):p.parts.length≤qV p.v:=Nat.le_trans (ZK _ _) (PL.vO p)
theorem gW (l:List PE):kM (fun k=>1+qV k.v) l=qV (.sl 0 (l.map PE.zF)):=by rw [wN,yK];simp only [PE.qK]
theorem QS (l:List PL):kM (fun k=>qV (PL.v k)) l≤qV (.sl 0 (l.map PE.xu)):=by
 rw [wN]
 simp only [PE.kX,bY]
 exact Nat.le_add_left _ _
theorem PE.bD {op:Nat→Nat→Nat} (h:Y5 op) (x:PE):x.ms op≤1+qV x.v:=by
 induction x using PE.ind with
 | h e ih1 ih2 =>
   have e1:=PE.wG e
   have e2:=vJ h (PE.ms op) e.kids
   have e3:=x9 (f:=PE.ms op) (g:=fun k=>1+qV k.v) (l:=e.kids) ih1
   have e4:=vJ h (PE.yU op) e.sub
   have e5:=x9 (f:=PE.yU op) (g:=fun p:PL=>qV (PL.v p)) (l:=e.sub) fun p hp=>by
     rw [PE.pU h]
     exact Nat.le_trans (vJ h _ _) (Nat.le_trans (x9 (ih2 p hp)) (PL.vO p))
   have e6:=gW e.kids
   have e7:kM (fun p:PL=>qV (PL.v p)) e.sub≤_:=QS e.sub
   have e8:=h.le (xq op (PE.ms op) e.kids) (xq op (PE.yU op) e.sub)
   rw [PE.Jm]
   omega
theorem PL.bD {op:Nat→Nat→Nat} (h:Y5 op) (p:PL):PE.yU op p≤qV p.v:=by
 rw [PE.pU h]
 exact Nat.le_trans (vJ h _ _) (Nat.le_trans (x9 fun k _=>PE.bD h k) (PL.vO p))
theorem PL.QT (p:PL):p.on.length≤qV p.v:=by
 have e:=PL.qC p
 have:=xW PE.vS p.on
 omega
theorem X6 (p:PL) (i:Nat):(p.on.take i).flatten.length≤p.parts.length:=by
 have:p.on.flatten=(p.on.take i).flatten++(p.on.drop i).flatten:=by rw [← List.flatten_append,List.take_append_drop]
 simp only [qZ.parts,this,List.length_append]
 omega
def JG (P:Program) (g:FuncId) (op:Nat→Nat→Nat) (e:PE):Prop:=∀ s:S,VCalls P g [e.v] s (fun v s'=>v = .int .i64 (e.ms op:Nat)∧s'=s)
theorem PE.els (te:Ty) (h:∀ x:PE,Zz te [PE.v x]=true) (l:List PE):zS te (l.map PE.zF):=zS.map fun x=>by rw [PE.qK];exact h x
theorem uU (p:PL) (hw:qV p.v≤1048576) (s:S):VCalls Tryz.prog 49 [p.v] s (fun v s'=>v = .sl 0 (p.parts.map PE.zF)∧s'=s):=by
 have hlen:=PL.vV p
 have OM:=PL.QT p
 have hpl:p.parts.length=p.on.flatten.length+p.xO.length+p.order.length+p.items.length:=by simp only [qZ.parts,List.length_append,List.length_map]
 refine zi.pure Tryz.func49 rfl (by kernel_rfl) (dh _ (xY _)) ?_
 repeat' first|(refine zf ?_;first|(refine zq.nil ?_)|(refine zq.ev zx rfl ?_)|(refine qW ?_;refine zq.box rfl rfl rfl rfl ?_)|(refine kZ ?_;first|(refine zq.uT zx rfl rfl rfl rfl rfl ?_))|(refine zo ?_;first|(refine zq.ans (zk.zm zx rfl rfl rfl rfl) ?_))|(refine qx ?_;first|(refine zq.ans (zk.z8 zx rfl rfl rfl) ?_)))|(refine zH ?_;first|(refine WL.seq ?_)|(refine WL.region (by kernel_rfl) ?_)|(refine WL.block ?_))|(refine zw ?_)
 refine WL.mV (t:=3) 10 rfl rfl rfl rfl ?_
 refine WL.xK (fun i:Nat=>p.on.length - i) (fun i=>[(1,.ptr (s.next+0) 0),(3,.sl (s.next+1) ((p.on.take i).flatten.map PE.zF)),(10,.sl 0 (p.on.map PE.vS)),(11,.int .i64 p.on.length),(12,.int .i64 (i:Int))]) (fun i=>[.var p.v.cells,.fam (p.on.take i).flatten.length 10])
   (fun i=>i≤p.on.length) 2 0 (by simp) (fun _=>rfl) ⟨rfl,rfl,rfl,rfl,rfl,trivial⟩ rfl (fun i hi=>?_) (fun i hi=>?_)
 · generalize (p.on.take i).flatten = us
   simp [qF,qG,Own.under,V.under,V.zO,PL.v,V.cells]
 have hon:=X6 p i
 rcases Nat.lt_or_ge i p.on.length with hlt | hge
 · have VB := X6 p (i + 1)
   rw [List.take_succ_eq_append_getElem hlt,List.flatten_append,List.length_append,List.flatten_cons,List.flatten_nil,List.append_nil] at VB
   have hga:(p.on.map PE.vS)[i]?=some (PE.vS p.on[i]):=by rw [List.getElem?_map,List.getElem?_eq_getElem hlt];rfl
   have ht:(p.on.take (i+1)).flatten=(p.on.take i).flatten++p.on[i]:=by rw [List.take_succ_eq_append_getElem hlt,List.flatten_append,List.flatten_cons,List.flatten_nil,List.append_nil]
   generalize p.on[i]=l at hga ht VB
   generalize (p.on.take i).flatten=us at hon VB ht ⊢
   repeat' first|(refine zf ?_;first|(refine zq.nil ?_)|(refine zq.ev zx rfl ?_)|(refine ji ?_;first|(refine zq.app zx rfl rfl rfl rfl rfl rfl rfl rfl rfl rfl rfl ?_ ?_ (xU.of ?_ rfl) ?_;(focus (first | rfl |(simp <;> fail)));(focus (first | exact zS.of rfl | exact zS.map fun _=>rfl | exact PE.els _ (fun _=>rfl) _));(focus (first | omega |(simp;omega)))))|(refine xk ?_;first|(refine zq.ans (zk.add rfl rfl ?_) ?_;(focus (constructor <;> omega))))|(refine xw ?_;first|(refine zq.ans (zk.idx zx rfl rfl rfl rfl rfl hga rfl rfl) ?_)))|(refine zH ?_;first|(refine WL.seq ?_)|(refine WL.region (by kernel_rfl) ?_)|(refine WL.block ?_)|(refine WL.skip ?_)|(refine zu ?_;first|(refine WL.zJ rfl ?_ ?_;(focus (first|(simp <;> omega))))))|(refine zw ?_)|(refine zQ ?_)
   refine qB.of (i+1) ?_ ?_ ?_ ?_
   · omega
   · omega
   · rw [ht, List.map_append]
     repeat' first | exact qz.nil |(refine qz.mk rfl ?_ ?_) | rfl |(simp <;> fail)|(simp;omega)
   · rw [ht, List.length_append]
     simp [PL.v,V.cells]
 · rw [List.take_of_length_le hge] at hon ⊢
   generalize hfl:p.on.flatten=fl at hpl hon ⊢
   repeat' first|(refine zf ?_;first|(refine zq.nil ?_)|(refine zq.ev zx rfl ?_)|(refine ji ?_;first|(refine zq.app zx rfl rfl rfl rfl rfl rfl rfl rfl rfl rfl rfl ?_ ?_ (xU.of ?_ rfl) ?_;(focus (first | rfl |(simp <;> fail)));(focus (first | exact zS.of rfl | exact zS.map fun _=>rfl | exact PE.els _ (fun _=>rfl) _));(focus (first | omega |(simp;omega)))))|(refine zo ?_;first|(refine zq.ans (zk.zm zx rfl rfl rfl rfl) ?_))|(refine qx ?_;first|(refine zq.ans (zk.z8 zx rfl rfl rfl) ?_)))|(refine zH ?_;first|(refine WL.seq ?_)|(refine WL.region (by kernel_rfl) ?_)|(refine WL.block ?_)|(refine WL.exit ?_)|(refine zu ?_;first|(refine WL.zY rfl ?_ ?_;(focus (first|(simp <;> omega))))))|(refine zw ?_)|(refine zC ?_)|(refine zV ?_)|(refine zL ?_)
   refine WL.xK (fun i:Nat=>p.order.length - i) (fun i=>[(1,.ptr (s.next+0) 0),(3,.sl (s.next+1) ((fl++p.xO++(p.order.take i).map (·.1)).map PE.zF)),(25,.sl 0 (p.order.map PE.sv)),(26,.int .i64 p.order.length),(27,.int .i64 (i:Int))]) (fun i=>[.var p.v.cells,.fam (fl++p.xO++(p.order.take i).map (·.1)).length 10])
     (fun i=>i≤p.order.length) 2 0 (by simp) (fun _=>rfl) ?_ ?_ (fun i hi=>?_) (fun i hi=>?_)
   · simp only [List.take_zero, List.map_nil, List.append_nil, List.map_append]
     exact ⟨rfl,rfl,rfl,rfl,rfl,trivial⟩
   · simp [PL.v,V.cells]
   · generalize fl ++ p.xO ++ (p.order.take i).map (·.1) = us
     simp [qF,qG,Own.under,V.under,V.zO,PL.v,V.cells]
   have hol:(fl++p.xO++(p.order.take i).map (·.1)).length=fl.length+p.xO.length+i:=by simp;omega
   rcases Nat.lt_or_ge i p.order.length with hlt | Qw
   · have hga : (p.order.map PE.sv)[i]? = some (PE.sv p.order[i]) := by rw [List.getElem?_map, List.getElem?_eq_getElem hlt]; rfl
     have ht:fl++p.xO++(p.order.take (i+1)).map (·.1)=(fl++p.xO++(p.order.take i).map (·.1))++[p.order[i].1]:=by
       rw [List.take_succ_eq_append_getElem hlt,List.map_append, ← List.append_assoc]
       rfl
     generalize fl++p.xO++(p.order.take i).map (·.1)=us at hol ht ⊢
     generalize p.order[i]=x at hga ht
     repeat' first|(refine zf ?_;first|(refine zq.nil ?_)|(refine zU ?_;refine zq.qD zx rfl rfl rfl rfl rfl rfl rfl rfl rfl ?_)|(refine zq.ev zx rfl ?_)|(refine qj ?_;refine zq.alloc zx rfl rfl rfl rfl ?_)|(refine kZ ?_;first|(refine zq.Kl zx rfl rfl rfl rfl rfl rfl rfl rfl rfl rfl rfl ?_))|(refine ji ?_;first|(refine zq.app zx rfl rfl rfl rfl rfl rfl rfl rfl rfl rfl rfl ?_ ?_ (xU.of ?_ rfl) ?_;(focus (first | rfl |(simp <;> fail)));(focus (first | exact zS.of rfl | exact zS.map fun _=>rfl | exact PE.els _ (fun _=>rfl) _));(focus (first | omega |(simp;omega)))))|(refine zo ?_;first|(refine zq.ans (zk.zm zx rfl rfl rfl rfl) ?_))|(refine xk ?_;first|(refine zq.ans (zk.add rfl rfl ?_) ?_;(focus (constructor <;> omega))))|(refine xw ?_;first|(refine zq.ans (zk.idx zx rfl rfl rfl rfl rfl hga rfl rfl) ?_)))|(refine zH ?_;first|(refine WL.seq ?_)|(refine WL.region (by kernel_rfl) ?_)|(refine WL.block ?_)|(refine WL.skip ?_)|(refine zu ?_;first|(refine WL.zJ rfl ?_ ?_;(focus (first|(simp <;> omega))))))|(refine zw ?_)|(refine zQ ?_)
     refine qB.of (i+1) ?_ ?_ ?_ ?_
     · omega
     · omega
     · rw [ht, List.map_append, List.map_cons, List.map_nil, PE.qK]
       repeat' first | exact qz.nil |(refine qz.mk rfl ?_ ?_) | rfl |(simp <;> fail)|(simp;omega)
     · rw [ht, List.length_append]
       simp [PL.v,V.cells]
   · rw [List.take_of_length_le Qw] at hol ⊢
     repeat' first|(refine zf ?_;first|(refine zq.nil ?_)|(refine zq.ev zx rfl ?_)|(refine ji ?_;first|(refine zq.app zx rfl rfl rfl rfl rfl rfl rfl rfl rfl rfl rfl ?_ ?_ (xU.of ?_ rfl) ?_;(focus (first | rfl |(simp <;> fail)));(focus (first | exact zS.of rfl | exact zS.map fun _=>rfl | exact PE.els _ (fun _=>rfl) _));(focus (first | omega |(simp;omega)))))|(refine zo ?_;first|(refine zq.ans (zk.zm zx rfl rfl rfl rfl) ?_)))|(refine zH ?_;first|(refine WL.seq ?_)|(refine WL.region (by kernel_rfl) ?_)|(refine WL.exit ?_)|(refine WL.ret ?_)|(refine zu ?_;first|(refine WL.zY rfl ?_ ?_;(focus (first|(simp <;> omega))))))|(refine zw ?_)|(refine zC ?_)|(refine zV ?_)|(refine zL ?_)|(refine zh.r1 (r := .tmp 2) (.inl rfl) (zn.tmp rfl) ?_)|(refine zX.mk ?_)
     simp only [qZ.parts,hfl,List.map_append,V.forget,V.xL,List.append_assoc]
     have hfg:∀ l:List PE,(l.map PE.zF).map V.forget=l.map PE.zF:=fun l=>by
       have:=vB _ (xY l)
       simp only [V.forget,V.xL,V.sl.injEq,true_and] at this
       exact this
     simp only [hfg]
theorem gY (p:PL) (hw:qV p.v≤1048576) (s:S):VCalls Tryz.prog 29 [p.v] s (fun v s'=>v = .sl 0 (p.parts.map PE.zF)∧s'=s):=by
 have hlen:=PL.vV p
 have OM:=PL.QT p
 have hpl:p.parts.length=p.on.flatten.length+p.xO.length+p.order.length+p.items.length:=by simp only [qZ.parts,List.length_append,List.length_map]
 refine zi.pure Tryz.func29 rfl (by kernel_rfl) (dh _ (xY _)) ?_
 repeat' first|(refine zf ?_;first|(refine zq.nil ?_)|(refine zq.ev zx rfl ?_)|(refine qW ?_;refine zq.box rfl rfl rfl rfl ?_)|(refine kZ ?_;first|(refine zq.uT zx rfl rfl rfl rfl rfl ?_)))|(refine zH ?_;first|(refine WL.seq ?_)|(refine WL.region (by kernel_rfl) ?_)|(refine WL.block ?_))|(refine zw ?_)
 refine WL.mV (t:=3) 10 rfl rfl rfl rfl ?_
 refine WL.xK (fun i:Nat=>p.on.length - i) (fun i=>[(1,.ptr (s.next+0) 0),(3,.sl (s.next+1) ((p.on.take i).flatten.map PE.zF)),(4,.int .i64 (i:Int))]) (fun i=>[.var p.v.cells,.fam (p.on.take i).flatten.length 10])
   (fun i=>i≤p.on.length) 2 0 (by simp) (fun _=>rfl) ⟨rfl,rfl,rfl,trivial⟩ rfl (fun i hi=>?_) (fun i hi=>?_)
 · generalize (p.on.take i).flatten = us
   simp [qF,qG,Own.under,V.under,V.zO,PL.v,V.cells]
 have hon:=X6 p i
 rcases Nat.lt_or_ge i p.on.length with hlt | hge
 · have VB := X6 p (i + 1)
   rw [List.take_succ_eq_append_getElem hlt,List.flatten_append,List.length_append,List.flatten_cons,List.flatten_nil,List.append_nil] at VB
   have hga:(p.on.map PE.vS)[i]?=some (PE.vS p.on[i]):=by rw [List.getElem?_map,List.getElem?_eq_getElem hlt];rfl
   have ht:(p.on.take (i+1)).flatten=(p.on.take i).flatten++p.on[i]:=by rw [List.take_succ_eq_append_getElem hlt,List.flatten_append,List.flatten_cons,List.flatten_nil,List.append_nil]
   generalize p.on[i]=l at hga ht VB
   generalize (p.on.take i).flatten=us at hon VB ht ⊢
   repeat' first|(refine zf ?_;first|(refine zq.nil ?_)|(refine zq.ev zx rfl ?_)|(refine ji ?_;first|(refine zq.app zx rfl rfl rfl rfl rfl rfl rfl rfl rfl rfl rfl ?_ ?_ (xU.of ?_ rfl) ?_;(focus (first | rfl |(simp <;> fail)));(focus (first | exact zS.of rfl | exact zS.map fun _=>rfl | exact PE.els _ (fun _=>rfl) _));(focus (first | omega |(simp;omega)))))|(refine zo ?_;first|(refine zq.ans (zk.zm zx rfl rfl rfl rfl) ?_))|(refine qx ?_;first|(refine zq.ans (zk.z8 zx rfl rfl rfl) ?_))|(refine xk ?_;first|(refine zq.ans (zk.add rfl rfl ?_) ?_;(focus (constructor <;> omega))))|(refine xw ?_;first|(refine zq.ans (zk.idx zx rfl rfl rfl rfl rfl hga rfl rfl) ?_)))|(refine zH ?_;first|(refine WL.seq ?_)|(refine WL.region (by kernel_rfl) ?_)|(refine WL.block ?_)|(refine WL.skip ?_)|(refine zu ?_;first|(refine WL.zJ rfl ?_ ?_;(focus (first|(simp <;> omega))))))|(refine zw ?_)|(refine zQ ?_)
   refine qB.of (i+1) ?_ ?_ ?_ ?_
   · omega
   · omega
   · rw [ht, List.map_append]
     repeat' first | exact qz.nil |(refine qz.mk rfl ?_ ?_) | rfl |(simp <;> fail)|(simp;omega)
   · rw [ht, List.length_append]
     simp [PL.v,V.cells]
 · rw [List.take_of_length_le hge] at hon ⊢
   generalize hfl:p.on.flatten=fl at hpl hon ⊢
   repeat' first|(refine zf ?_;first|(refine zq.nil ?_)|(refine zq.ev zx rfl ?_)|(refine ji ?_;first|(refine zq.app zx rfl rfl rfl rfl rfl rfl rfl rfl rfl rfl rfl ?_ ?_ (xU.of ?_ rfl) ?_;(focus (first | rfl |(simp <;> fail)));(focus (first | exact zS.of rfl | exact zS.map fun _=>rfl | exact PE.els _ (fun _=>rfl) _));(focus (first | omega |(simp;omega)))))|(refine zo ?_;first|(refine zq.ans (zk.zm zx rfl rfl rfl rfl) ?_))|(refine qx ?_;first|(refine zq.ans (zk.z8 zx rfl rfl rfl) ?_)))|(refine zH ?_;first|(refine WL.seq ?_)|(refine WL.region (by kernel_rfl) ?_)|(refine WL.block ?_)|(refine WL.exit ?_)|(refine zu ?_;first|(refine WL.zY rfl ?_ ?_;(focus (first|(simp <;> omega))))))|(refine zw ?_)|(refine zC ?_)|(refine zV ?_)|(refine zL ?_)
   refine WL.xK (fun i:Nat=>p.order.length - i) (fun i=>[(1,.ptr (s.next+0) 0),(3,.sl (s.next+1) ((fl++p.xO++(p.order.take i).map (·.1)).map PE.zF)),(5,.int .i64 (i:Int))]) (fun i=>[.var p.v.cells,.fam (fl++p.xO++(p.order.take i).map (·.1)).length 10])
     (fun i=>i≤p.order.length) 2 0 (by simp) (fun _=>rfl) ?_ ?_ (fun i hi=>?_) (fun i hi=>?_)
   · simp only [List.take_zero, List.map_nil, List.append_nil, List.map_append]
     exact ⟨rfl,rfl,rfl,trivial⟩
   · simp [PL.v,V.cells]
   · generalize fl ++ p.xO ++ (p.order.take i).map (·.1) = us
     simp [qF,qG,Own.under,V.under,V.zO,PL.v,V.cells]
   have hol:(fl++p.xO++(p.order.take i).map (·.1)).length=fl.length+p.xO.length+i:=by simp;omega
   rcases Nat.lt_or_ge i p.order.length with hlt | Qw
   · have hga : (p.order.map PE.sv)[i]? = some (PE.sv p.order[i]) := by rw [List.getElem?_map, List.getElem?_eq_getElem hlt]; rfl
     have ht:fl++p.xO++(p.order.take (i+1)).map (·.1)=(fl++p.xO++(p.order.take i).map (·.1))++[p.order[i].1]:=by
       rw [List.take_succ_eq_append_getElem hlt,List.map_append, ← List.append_assoc]
       rfl
     generalize fl++p.xO++(p.order.take i).map (·.1)=us at hol ht ⊢
     generalize p.order[i]=x at hga ht
     repeat' first|(refine zf ?_;first|(refine zq.nil ?_)|(refine zq.ev zx rfl ?_)|(refine kZ ?_;first|(refine zq.Kl zx rfl rfl rfl rfl rfl rfl rfl rfl rfl rfl rfl ?_))|(refine ji ?_;first|(refine zq.app zx rfl rfl rfl rfl rfl rfl rfl rfl rfl rfl rfl ?_ ?_ (xU.of ?_ rfl) ?_;(focus (first | rfl |(simp <;> fail)));(focus (first | exact zS.of rfl | exact zS.map fun _=>rfl | exact PE.els _ (fun _=>rfl) _));(focus (first | omega |(simp;omega)))))|(refine zo ?_;first|(refine zq.ans (zk.zm zx rfl rfl rfl rfl) ?_))|(refine qx ?_;first|(refine zq.ans (zk.z8 zx rfl rfl rfl) ?_))|(refine xk ?_;first|(refine zq.ans (zk.add rfl rfl ?_) ?_;(focus (constructor <;> omega))))|(refine xw ?_;first|(refine zq.ans (zk.idx zx rfl rfl rfl rfl rfl hga rfl rfl) ?_)))|(refine zH ?_;first|(refine WL.seq ?_)|(refine WL.region (by kernel_rfl) ?_)|(refine WL.block ?_)|(refine WL.skip ?_)|(refine zu ?_;first|(refine WL.zJ rfl ?_ ?_;(focus (first|(simp <;> omega))))))|(refine zw ?_)|(refine zQ ?_)
     refine qB.of (i+1) ?_ ?_ ?_ ?_
     · omega
     · omega
     · rw [ht, List.map_append, List.map_cons, List.map_nil, PE.qK]
       repeat' first | exact qz.nil |(refine qz.mk rfl ?_ ?_) | rfl |(simp <;> fail)|(simp;omega)
     · rw [ht, List.length_append]
       simp [PL.v,V.cells]
   · rw [List.take_of_length_le Qw] at hol ⊢
     repeat' first|(refine zf ?_;first|(refine zq.nil ?_)|(refine zq.ev zx rfl ?_)|(refine ji ?_;first|(refine zq.app zx rfl rfl rfl rfl rfl rfl rfl rfl rfl rfl rfl ?_ ?_ (xU.of ?_ rfl) ?_;(focus (first | rfl |(simp <;> fail)));(focus (first | exact zS.of rfl | exact zS.map fun _=>rfl | exact PE.els _ (fun _=>rfl) _));(focus (first | omega |(simp;omega)))))|(refine zo ?_;first|(refine zq.ans (zk.zm zx rfl rfl rfl rfl) ?_))|(refine qx ?_;first|(refine zq.ans (zk.z8 zx rfl rfl rfl) ?_)))|(refine zH ?_;first|(refine WL.seq ?_)|(refine WL.region (by kernel_rfl) ?_)|(refine WL.exit ?_)|(refine WL.ret ?_)|(refine zu ?_;first|(refine WL.zY rfl ?_ ?_;(focus (first|(simp <;> omega))))))|(refine zw ?_)|(refine zC ?_)|(refine zV ?_)|(refine zL ?_)|(refine zh.r1 (r := .tmp 2) (.inl rfl) (zn.tmp rfl) ?_)|(refine zX.mk ?_)
     simp only [qZ.parts,hfl,List.map_append,V.forget,V.xL,List.append_assoc]
     have hfg:∀ l:List PE,(l.map PE.zF).map V.forget=l.map PE.zF:=fun l=>by
       have:=vB _ (xY l)
       simp only [V.forget,V.xL,V.sl.injEq,true_and] at this
       exact this
     simp only [hfg]
theorem gB (a b:Nat) (s:S):VCalls Tryz.prog 30 [.int .i64 a,.int .i64 b] s (fun v s'=>v = .int .i64 (max a b:Nat)∧s'=s):=by
 refine zi.pure Tryz.func30 rfl (by kernel_rfl) (by simp) ?_
 repeat' first|(refine zf ?_;first|(refine zq.nil ?_)|(refine zq.ev zx rfl ?_))|(refine zH ?_;first|(refine WL.seq ?_)|(refine WL.region (by kernel_rfl) ?_)|(refine WL.skip ?_)|(refine WL.ret ?_)|(refine zu ?_;first|(refine WL.cond rfl (fun h=>?_) (fun h=>?_))))|(refine zw ?_)|(refine zZ ?_)|(refine zh.r1 (r := .tmp 4) (.inl rfl) (zn.tmp rfl) ?_)|(refine zX.mk ?_)
 all_goals (show V.int .i64 _=V.int .i64 _;congr 1;simp_all;try omega)
theorem fq (l:List PE) (hl:kM (fun k=>1+qV k.v) l≤1048576) (ih:∀ k∈l,JG Tryz.prog 85 (fun a b=>a+b) k) (s:S):VCalls Tryz.prog 50 [.sl 0 (l.map PE.zF)] s (fun v s'=>v = .int .i64 (xq (fun a b=>a+b) (PE.ms (fun a b=>a+b)) l:Nat)∧s'=s):=by
 have hlen:=Nat.le_trans (ZK (fun k:PE=>qV k.v) l) hl
 have hm:=x9 (f:=PE.ms (fun a b=>a+b)) (g:=fun k=>1+qV k.v) (l:=l) fun k _=>PE.bD vX k
 refine zi.pure Tryz.func50 rfl (by kernel_rfl) (by simp) ?_
 repeat' first|(refine zf ?_;first|(refine zq.nil ?_)|(refine zq.ev zx rfl ?_)|(refine qx ?_;first|(refine zq.ans (zk.z8 zx rfl rfl rfl) ?_)))|(refine zH ?_;first|(refine WL.seq ?_)|(refine WL.region (by kernel_rfl) ?_)|(refine WL.block ?_))|(refine zw ?_)
 refine WL.xK (fun i:Nat=>l.length - i) (fun i=>[(3,.int .i64 (xq (fun a b=>a+b) (PE.ms (fun a b=>a+b)) (l.take i):Nat)),(6,.sl 0 (l.map PE.zF)),(7,.int .i64 l.length),(8,.int .i64 (i:Int))]) (fun i=>[]) (fun i=>i≤l.length) 0 0 (by simp) (fun _=>rfl) ⟨rfl,rfl,rfl,rfl,trivial⟩ rfl (fun i hi=>?_) (fun i hi=>?_)
 · simp [qF,qG,V.under,V.zO]
 rcases Nat.lt_or_ge i l.length with hlt | hge
 · have hga : (l.map PE.zF)[i]? = some (PE.v l[i]) := by rw [List.getElem?_map, List.getElem?_eq_getElem hlt]; simp only [Option.map_some, PE.qK]
   have hE:=ih l[i] (List.getElem_mem hlt)
   have ht:=vo vX (PE.ms (fun a b=>a+b)) hlt
   have hb:=qN vX (PE.ms (fun a b=>a+b)) l i
   have hb2:=qN vX (PE.ms (fun a b=>a+b)) l (i+1)
   rw [ht] at hb2
   generalize l[i]=x at hga hE ht hb2
   simp only [JG] at hE
   generalize xq (fun a b=>a+b) (PE.ms (fun a b=>a+b)) (l.take i)=acc at ht hb hb2 ⊢
   repeat' first|(refine zf ?_;first|(refine zq.nil ?_)|(refine zU ?_;refine zq.qD zx rfl rfl rfl rfl rfl rfl rfl rfl rfl ?_)|(refine zq.ev zx rfl ?_)|(refine qj ?_;refine zq.alloc zx rfl rfl rfl rfl ?_)|(refine zo ?_;first|(refine zq.ans (zk.zm zx rfl rfl rfl rfl) ?_))|(refine xk ?_;first|(refine zq.ans (zk.add rfl rfl ?_) ?_;(focus (constructor <;> omega))))|(refine xw ?_;first|(refine zq.ans (zk.idx zx rfl rfl rfl rfl rfl hga rfl rfl) ?_))|(refine zy 85 ?_;first|(refine zq.ans (zk.ze rfl rfl rfl (Oh) (hE _)) ?_)))|(refine zH ?_;first|(refine WL.seq ?_)|(refine WL.region (by kernel_rfl) ?_)|(refine WL.block ?_)|(refine WL.skip ?_)|(refine zu ?_;first|(refine WL.zJ rfl ?_ ?_;(focus (first|(simp <;> omega))))))|(refine zw ?_)|(refine zQ ?_)
   refine qB.of (i+1) ?_ ?_ ?_ rfl
   · omega
   · omega
   rw [ht]
   repeat' first | exact qz.nil |(refine qz.mk rfl ?_ ?_) | rfl |(simp <;> fail)|(simp;omega)
 · rw [List.take_of_length_le hge]
   repeat' first|(refine zf ?_;first|(refine zq.nil ?_)|(refine zq.ev zx rfl ?_))|(refine zH ?_;first|(refine WL.seq ?_)|(refine WL.region (by kernel_rfl) ?_)|(refine WL.exit ?_)|(refine WL.ret ?_)|(refine zu ?_;first|(refine WL.zY rfl ?_ ?_;(focus (first|(simp <;> omega))))))|(refine zw ?_)|(refine zC ?_)|(refine zV ?_)|(refine zL ?_)|(refine zh.r1 (r := .tmp 2) (.inl rfl) (zn.tmp rfl) ?_)|(refine zX.mk ?_)
   rfl
theorem gG (p:PL) (hw:qV p.v≤1048576) (ih:∀ k∈p.parts,JG Tryz.prog 85 (fun a b=>a+b) k) (s:S):VCalls Tryz.prog 19 [p.v] s (fun v s'=>v = .int .i64 (PE.yU (fun a b=>a+b) p:Nat)∧s'=s):=by
 rw [PE.pU vX]
 refine zi.pure Tryz.func19 rfl (by kernel_rfl) (by simp) ?_
 repeat' first|(refine zf ?_;first|(refine zq.nil ?_)|(refine zq.ev zx rfl ?_)|(refine qW ?_;refine zq.box rfl rfl rfl rfl ?_)|(refine zo ?_;first|(refine zq.ans (zk.zm zx rfl rfl rfl rfl) ?_))|(refine zy 49 ?_;first|(refine zq.ans (zk.ze rfl rfl rfl (Az) (uU p hw _)) ?_))|(refine zy 50 ?_;first|(refine zq.ans (zk.ze rfl rfl rfl (Hw) (fq p.parts ?_ ?_ _)) ?_;(focus (exact Nat.le_trans (PL.vO p) hw));(focus (exact ih)))))|(refine zH ?_;first|(refine WL.seq ?_)|(refine WL.region (by kernel_rfl) ?_)|(refine WL.ret ?_))|(refine zw ?_)|(refine zh.r1 (r := .tmp 2) (.inl rfl) (zn.tmp rfl) ?_)|(refine zX.mk ?_)
 rfl
theorem VD (e:PE):qV e.v≤1048576→JG Tryz.prog 85 (fun a b=>a+b) e:=by
 induction e using PE.ind with
 | h e ih1 ih2 =>
   intro hw s
   rw [PE.Jm]
   have e1:=PE.wG e
   have e2:=gW e.kids
   have e3:=QS e.sub
   have hsl:=xW PE.xu e.sub
   have hk:=vJ vX (PE.ms (fun a b=>a+b)) e.kids
   have hm:=x9 (f:=PE.ms (fun a b=>a+b)) (g:=fun k=>1+qV k.v) (l:=e.kids) fun k _=>PE.bD vX k
   have hm2:=x9 (f:=PE.yU (fun a b=>a+b)) (g:=fun k:PL=>qV (PL.v k)) (l:=e.sub) fun k _=>PL.bD vX k
   have hK:∀ t,VCalls Tryz.prog 50 [.sl 0 (e.kids.map PE.zF)] t (fun v s'=>v = .int .i64 (xq (fun a b=>a+b) (PE.ms (fun a b=>a+b)) e.kids:Nat)∧s'=t):=fun t=>fq e.kids (by omega) (fun k hk=>ih1 k hk (Nat.le_trans (PE.vD hk) hw)) t
   generalize xq (fun a b=>a+b) (PE.ms (fun a b=>a+b)) e.kids=kk at hk hK ⊢
   refine zi.pure Tryz.func85 rfl (by kernel_rfl) (by simp) ?_
   repeat' first|(refine zf ?_;first|(refine zq.nil ?_)|(refine zq.ev zx rfl ?_)|(refine qW ?_;refine zq.box rfl rfl rfl rfl ?_)|(refine zo ?_;first|(refine zq.ans (zk.zm zx rfl rfl rfl rfl) ?_))|(refine qx ?_;first|(refine zq.ans (zk.z8 zx rfl rfl rfl) ?_))|(refine xk ?_;first|(refine zq.ans (zk.add rfl rfl ?_) ?_;(focus (constructor <;> omega))))|(refine zy 50 ?_;first|(refine zq.ans (zk.ze rfl rfl rfl (Hw) (hK _)) ?_)))|(refine zH ?_;first|(refine WL.seq ?_)|(refine WL.region (by kernel_rfl) ?_)|(refine WL.block ?_))|(refine zw ?_)
   refine WL.xK (fun i:Nat=>e.sub.length - i) (fun i=>[(1,.ptr (s.next+0) 0),(3,.int .i64 (1+(kk+xq (fun a b=>a+b) (PE.yU (fun a b=>a+b)) (e.sub.take i)):Nat)),(11,.sl 0 (e.sub.map PE.xu)),(12,.int .i64 e.sub.length),(13,.int .i64 (i:Int))]) (fun i=>[.var e.v.cells]) (fun i=>i≤e.sub.length) 1 0 (by simp) (fun _=>rfl) ⟨rfl,by simp [xq,lk],rfl,rfl,rfl,trivial⟩ rfl (fun i hi=>?_) (fun i hi=>?_)
   · simp [qF,qG,Own.under,V.under,V.zO,PE.v,V.cells]
   rcases Nat.lt_or_ge i e.sub.length with hlt | hge
   · have hga : (e.sub.map PE.xu)[i]? = some (PL.v e.sub[i]) := by rw [List.getElem?_map, List.getElem?_eq_getElem hlt]; simp only [Option.map_some, PE.kX]
     have hE:=fun t=>gG e.sub[i] (Nat.le_trans (PE.jB (List.getElem_mem hlt)) hw) (fun k hk=>ih2 _ (List.getElem_mem hlt) k hk (Nat.le_trans (PL.jq hk) (Nat.le_trans (PE.jB (List.getElem_mem hlt)) hw))) t
     have ht:=vo vX (PE.yU (fun a b=>a+b)) hlt
     have hb:=qN vX (PE.yU (fun a b=>a+b)) e.sub i
     have hb2:=qN vX (PE.yU (fun a b=>a+b)) e.sub (i+1)
     rw [ht] at hb2
     generalize e.sub[i]=x at hga hE ht hb2
     generalize xq (fun a b=>a+b) (PE.yU (fun a b=>a+b)) (e.sub.take i)=acc at ht hb hb2 ⊢
     repeat' first|(refine zf ?_;first|(refine zq.nil ?_)|(refine zU ?_;refine zq.qD zx rfl rfl rfl rfl rfl rfl rfl rfl rfl ?_)|(refine zq.ev zx rfl ?_)|(refine qj ?_;refine zq.alloc zx rfl rfl rfl rfl ?_)|(refine zo ?_;first|(refine zq.ans (zk.zm zx rfl rfl rfl rfl) ?_))|(refine xk ?_;first|(refine zq.ans (zk.add rfl rfl ?_) ?_;(focus (constructor <;> omega))))|(refine xw ?_;first|(refine zq.ans (zk.idx zx rfl rfl rfl rfl rfl hga rfl rfl) ?_))|(refine zy 19 ?_;first|(refine zq.ans (zk.ze rfl rfl rfl (Ed) (hE _)) ?_)))|(refine zH ?_;first|(refine WL.seq ?_)|(refine WL.region (by kernel_rfl) ?_)|(refine WL.block ?_)|(refine WL.skip ?_)|(refine zu ?_;first|(refine WL.zJ rfl ?_ ?_;(focus (first|(simp <;> omega))))))|(refine zw ?_)|(refine zQ ?_)
     refine qB.of (i+1) ?_ ?_ ?_ rfl
     · omega
     · omega
     rw [ht]
     repeat' first | exact qz.nil |(refine qz.mk rfl ?_ ?_) | rfl |(simp <;> fail)|(simp;omega)
   · rw [List.take_of_length_le hge]
     have hb:=vJ vX (PE.yU (fun a b=>a+b)) e.sub
     generalize xq (fun a b=>a+b) (PE.yU (fun a b=>a+b)) e.sub=acc at hb ⊢
     repeat' first|(refine zf ?_;first|(refine zq.nil ?_)|(refine zq.ev zx rfl ?_))|(refine zH ?_;first|(refine WL.seq ?_)|(refine WL.region (by kernel_rfl) ?_)|(refine WL.exit ?_)|(refine WL.ret ?_)|(refine zu ?_;first|(refine WL.zY rfl ?_ ?_;(focus (first|(simp <;> omega))))))|(refine zw ?_)|(refine zC ?_)|(refine zV ?_)|(refine zL ?_)|(refine zh.r1 (r := .tmp 2) (.inl rfl) (zn.tmp rfl) ?_)|(refine zX.mk ?_)
     all_goals (show V.int .i64 _=V.int .i64 _)
     all_goals congr 1
     all_goals omega
theorem ZJ (p:PL) (hw:qV p.v≤1048576) (s:S):VCalls Tryz.prog 19 [p.v] s (fun v s'=>v = .int .i64 (PE.yU (fun a b=>a+b) p:Nat)∧s'=s):=gG p hw (fun k hk=>VD k (Nat.le_trans (PL.jq hk) hw)) s
theorem dW (l:List PE) (hl:kM (fun k=>1+qV k.v) l≤1048576) (ih:∀ k∈l,JG Tryz.prog 84 (fun a b=>max a b) k) (s:S):VCalls Tryz.prog 48 [.sl 0 (l.map PE.zF)] s (fun v s'=>v = .int .i64 (xq (fun a b=>max a b) (PE.ms (fun a b=>max a b)) l:Nat)∧s'=s):=by
 have hlen:=Nat.le_trans (ZK (fun k:PE=>qV k.v) l) hl
 have hm:=x9 (f:=PE.ms (fun a b=>max a b)) (g:=fun k=>1+qV k.v) (l:=l) fun k _=>PE.bD vK k
 refine zi.pure Tryz.func48 rfl (by kernel_rfl) (by simp) ?_
 repeat' first|(refine zf ?_;first|(refine zq.nil ?_)|(refine zq.ev zx rfl ?_)|(refine qx ?_;first|(refine zq.ans (zk.z8 zx rfl rfl rfl) ?_)))|(refine zH ?_;first|(refine WL.seq ?_)|(refine WL.region (by kernel_rfl) ?_)|(refine WL.block ?_))|(refine zw ?_)
 refine WL.xK (fun i:Nat=>l.length - i) (fun i=>[(3,.int .i64 (xq (fun a b=>max a b) (PE.ms (fun a b=>max a b)) (l.take i):Nat)),(6,.sl 0 (l.map PE.zF)),(7,.int .i64 l.length),(8,.int .i64 (i:Int))]) (fun i=>[]) (fun i=>i≤l.length) 0 0 (by simp) (fun _=>rfl) ⟨rfl,rfl,rfl,rfl,trivial⟩ rfl (fun i hi=>?_) (fun i hi=>?_)
 · simp [qF,qG,V.under,V.zO]
 rcases Nat.lt_or_ge i l.length with hlt | hge
 · have hga : (l.map PE.zF)[i]? = some (PE.v l[i]) := by rw [List.getElem?_map, List.getElem?_eq_getElem hlt]; simp only [Option.map_some, PE.qK]
   have hE:=ih l[i] (List.getElem_mem hlt)
   have ht:=vo vK (PE.ms (fun a b=>max a b)) hlt
   have hb:=qN vK (PE.ms (fun a b=>max a b)) l i
   have hb2:=qN vK (PE.ms (fun a b=>max a b)) l (i+1)
   rw [ht] at hb2
   generalize l[i]=x at hga hE ht hb2
   simp only [JG] at hE
   generalize xq (fun a b=>max a b) (PE.ms (fun a b=>max a b)) (l.take i)=acc at ht hb hb2 ⊢
   repeat' first|(refine zf ?_;first|(refine zq.nil ?_)|(refine zU ?_;refine zq.qD zx rfl rfl rfl rfl rfl rfl rfl rfl rfl ?_)|(refine zq.ev zx rfl ?_)|(refine qj ?_;refine zq.alloc zx rfl rfl rfl rfl ?_)|(refine zo ?_;first|(refine zq.ans (zk.zm zx rfl rfl rfl rfl) ?_))|(refine xk ?_;first|(refine zq.ans (zk.add rfl rfl ?_) ?_;(focus (constructor <;> omega))))|(refine xw ?_;first|(refine zq.ans (zk.idx zx rfl rfl rfl rfl rfl hga rfl rfl) ?_))|(refine zy 84 ?_;first|(refine zq.ans (zk.ze rfl rfl rfl (Og) (hE _)) ?_)))|(refine zH ?_;first|(refine WL.seq ?_)|(refine WL.region (by kernel_rfl) ?_)|(refine WL.block ?_)|(refine WL.skip ?_)|(refine zu ?_;first|(refine WL.zJ rfl ?_ ?_;(focus (first|(simp <;> omega))))))|(refine zw ?_)|(refine zQ ?_)
   refine qB.of (i+1) ?_ ?_ ?_ rfl
   · omega
   · omega
   rw [ht]
   repeat' first | exact qz.nil |(refine qz.mk rfl ?_ ?_) | rfl |(simp <;> fail)|(simp;omega)
 · rw [List.take_of_length_le hge]
   repeat' first|(refine zf ?_;first|(refine zq.nil ?_)|(refine zq.ev zx rfl ?_))|(refine zH ?_;first|(refine WL.seq ?_)|(refine WL.region (by kernel_rfl) ?_)|(refine WL.exit ?_)|(refine WL.ret ?_)|(refine zu ?_;first|(refine WL.zY rfl ?_ ?_;(focus (first|(simp <;> omega))))))|(refine zw ?_)|(refine zC ?_)|(refine zV ?_)|(refine zL ?_)|(refine zh.r1 (r := .tmp 2) (.inl rfl) (zn.tmp rfl) ?_)|(refine zX.mk ?_)
   rfl
theorem fu (p:PL) (hw:qV p.v≤1048576) (ih:∀ k∈p.parts,JG Tryz.prog 84 (fun a b=>max a b) k) (s:S):VCalls Tryz.prog 18 [p.v] s (fun v s'=>v = .int .i64 (PE.yU (fun a b=>max a b) p:Nat)∧s'=s):=by
 rw [PE.pU vK]
 refine zi.pure Tryz.func18 rfl (by kernel_rfl) (by simp) ?_
 repeat' first|(refine zf ?_;first|(refine zq.nil ?_)|(refine zq.ev zx rfl ?_)|(refine qW ?_;refine zq.box rfl rfl rfl rfl ?_)|(refine zo ?_;first|(refine zq.ans (zk.zm zx rfl rfl rfl rfl) ?_))|(refine zy 48 ?_;first|(refine zq.ans (zk.ze rfl rfl rfl (Hq) (dW p.parts ?_ ?_ _)) ?_;(focus (exact Nat.le_trans (PL.vO p) hw));(focus (exact ih))))|(refine zy 49 ?_;first|(refine zq.ans (zk.ze rfl rfl rfl (Az) (uU p hw _)) ?_)))|(refine zH ?_;first|(refine WL.seq ?_)|(refine WL.region (by kernel_rfl) ?_)|(refine WL.ret ?_))|(refine zw ?_)|(refine zh.r1 (r := .tmp 2) (.inl rfl) (zn.tmp rfl) ?_)|(refine zX.mk ?_)
 rfl
theorem Jo (e:PE):qV e.v≤1048576→JG Tryz.prog 84 (fun a b=>max a b) e:=by
 induction e using PE.ind with
 | h e ih1 ih2 =>
   intro hw s
   rw [PE.Jm]
   have e1:=PE.wG e
   have e2:=gW e.kids
   have e3:=QS e.sub
   have hsl:=xW PE.xu e.sub
   have hk:=vJ vK (PE.ms (fun a b=>max a b)) e.kids
   have hm:=x9 (f:=PE.ms (fun a b=>max a b)) (g:=fun k=>1+qV k.v) (l:=e.kids) fun k _=>PE.bD vK k
   have hm2:=x9 (f:=PE.yU (fun a b=>max a b)) (g:=fun k:PL=>qV (PL.v k)) (l:=e.sub) fun k _=>PL.bD vK k
   have hK:∀ t,VCalls Tryz.prog 48 [.sl 0 (e.kids.map PE.zF)] t (fun v s'=>v = .int .i64 (xq (fun a b=>max a b) (PE.ms (fun a b=>max a b)) e.kids:Nat)∧s'=t):=fun t=>dW e.kids (by omega) (fun k hk=>ih1 k hk (Nat.le_trans (PE.vD hk) hw)) t
   generalize xq (fun a b=>max a b) (PE.ms (fun a b=>max a b)) e.kids=kk at hk hK ⊢
   refine zi.pure Tryz.func84 rfl (by kernel_rfl) (by simp) ?_
   repeat' first|(refine zf ?_;first|(refine zq.nil ?_)|(refine zq.ev zx rfl ?_)|(refine qW ?_;refine zq.box rfl rfl rfl rfl ?_)|(refine zo ?_;first|(refine zq.ans (zk.zm zx rfl rfl rfl rfl) ?_))|(refine qx ?_;first|(refine zq.ans (zk.z8 zx rfl rfl rfl) ?_))|(refine zy 48 ?_;first|(refine zq.ans (zk.ze rfl rfl rfl (Hq) (hK _)) ?_)))|(refine zH ?_;first|(refine WL.seq ?_)|(refine WL.region (by kernel_rfl) ?_)|(refine WL.block ?_))|(refine zw ?_)
   refine WL.xK (fun i:Nat=>e.sub.length - i) (fun i=>[(1,.ptr (s.next+0) 0),(3,.int .i64 (max kk (xq (fun a b=>max a b) (PE.yU (fun a b=>max a b)) (e.sub.take i)):Nat)),(10,.sl 0 (e.sub.map PE.xu)),(11,.int .i64 e.sub.length),(12,.int .i64 (i:Int))]) (fun i=>[.var e.v.cells]) (fun i=>i≤e.sub.length) 1 0 (by simp) (fun _=>rfl) ⟨rfl,by simp [xq,lk],rfl,rfl,rfl,trivial⟩ rfl (fun i hi=>?_) (fun i hi=>?_)
   · simp [qF,qG,Own.under,V.under,V.zO,PE.v,V.cells]
   rcases Nat.lt_or_ge i e.sub.length with hlt | hge
   · have hga : (e.sub.map PE.xu)[i]? = some (PL.v e.sub[i]) := by rw [List.getElem?_map, List.getElem?_eq_getElem hlt]; simp only [Option.map_some, PE.kX]
     have hE:=fun t=>fu e.sub[i] (Nat.le_trans (PE.jB (List.getElem_mem hlt)) hw) (fun k hk=>ih2 _ (List.getElem_mem hlt) k hk (Nat.le_trans (PL.jq hk) (Nat.le_trans (PE.jB (List.getElem_mem hlt)) hw))) t
     have ht:=vo vK (PE.yU (fun a b=>max a b)) hlt
     have hb:=qN vK (PE.yU (fun a b=>max a b)) e.sub i
     have hb2:=qN vK (PE.yU (fun a b=>max a b)) e.sub (i+1)
     rw [ht] at hb2
     generalize e.sub[i]=x at hga hE ht hb2
     generalize xq (fun a b=>max a b) (PE.yU (fun a b=>max a b)) (e.sub.take i)=acc at ht hb hb2 ⊢
     repeat' first|(refine zf ?_;first|(refine zq.nil ?_)|(refine zU ?_;refine zq.qD zx rfl rfl rfl rfl rfl rfl rfl rfl rfl ?_)|(refine zq.ev zx rfl ?_)|(refine qj ?_;refine zq.alloc zx rfl rfl rfl rfl ?_)|(refine zo ?_;first|(refine zq.ans (zk.zm zx rfl rfl rfl rfl) ?_))|(refine xk ?_;first|(refine zq.ans (zk.add rfl rfl ?_) ?_;(focus (constructor <;> omega))))|(refine xw ?_;first|(refine zq.ans (zk.idx zx rfl rfl rfl rfl rfl hga rfl rfl) ?_))|(refine zy 18 ?_;first|(refine zq.ans (zk.ze rfl rfl rfl (Ec) (hE _)) ?_)))|(refine zH ?_;first|(refine WL.seq ?_)|(refine WL.region (by kernel_rfl) ?_)|(refine WL.block ?_)|(refine WL.skip ?_)|(refine zu ?_;first|(refine WL.zJ rfl ?_ ?_;(focus (first|(simp <;> omega))))))|(refine zw ?_)|(refine zQ ?_)
     refine qB.of (i+1) ?_ ?_ ?_ rfl
     · omega
     · omega
     rw [ht]
     repeat' first | exact qz.nil |(refine qz.mk rfl ?_ ?_) | rfl |(simp <;> fail)|(simp;omega)
   · rw [List.take_of_length_le hge]
     have hb:=vJ vK (PE.yU (fun a b=>max a b)) e.sub
     generalize xq (fun a b=>max a b) (PE.yU (fun a b=>max a b)) e.sub=acc at hb ⊢
     repeat' first|(refine zf ?_;first|(refine zq.nil ?_)|(refine zq.ev zx rfl ?_)|(refine xk ?_;first|(refine zq.ans (zk.add rfl rfl ?_) ?_;(focus (constructor <;> omega)))))|(refine zH ?_;first|(refine WL.seq ?_)|(refine WL.region (by kernel_rfl) ?_)|(refine WL.exit ?_)|(refine WL.ret ?_)|(refine zu ?_;first|(refine WL.zY rfl ?_ ?_;(focus (first|(simp <;> omega))))))|(refine zw ?_)|(refine zC ?_)|(refine zV ?_)|(refine zL ?_)|(refine zh.r1 (r := .tmp 2) (.inl rfl) (zn.tmp rfl) ?_)|(refine zX.mk ?_)
     all_goals (show V.int .i64 _=V.int .i64 _)
     all_goals congr 1
     all_goals omega
theorem rO (p:PL) (hw:qV p.v≤1048576) (s:S):VCalls Tryz.prog 18 [p.v] s (fun v s'=>v = .int .i64 (PE.yU (fun a b=>max a b) p:Nat)∧s'=s):=fu p hw (fun k hk=>Jo k (Nat.le_trans (PL.jq hk) hw)) s
theorem gH (p:PL) (hw:qV p.v≤1048576) (ih:∀ k∈p.parts,JG Tryz.prog 32 (fun a b=>a+b) k) (s:S):VCalls Tryz.prog 11 [p.v] s (fun v s'=>v = .int .i64 (PE.yU (fun a b=>a+b) p:Nat)∧s'=s):=by
 rw [PE.pU vX]
 have hl:=PL.vO p
 have hlen:=PL.vV p
 have hm:=x9 (f:=PE.ms (fun a b=>a+b)) (g:=fun k=>1+qV k.v) (l:=p.parts) fun k _=>PE.bD vX k
 refine zi.pure Tryz.func11 rfl (by kernel_rfl) (by simp) ?_
 have hP:=fun t=>gY p hw t
 generalize p.parts=l at hP hm hl hlen ih ⊢
 repeat' first|(refine zf ?_;first|(refine zq.nil ?_)|(refine zq.ev zx rfl ?_)|(refine qW ?_;refine zq.box rfl rfl rfl rfl ?_)|(refine zo ?_;first|(refine zq.ans (zk.zm zx rfl rfl rfl rfl) ?_))|(refine zy 29 ?_;first|(refine zq.ans (zk.ze rfl rfl rfl (Ef) (hP _)) ?_)))|(refine zH ?_;first|(refine WL.seq ?_)|(refine WL.region (by kernel_rfl) ?_)|(refine WL.block ?_))|(refine zw ?_)
 refine WL.xK (fun i:Nat=>l.length - i) (fun i=>[(3,.int .i64 (xq (fun a b=>a+b) (PE.ms (fun a b=>a+b)) (l.take i):Nat)),(4,.sl 0 (l.map PE.zF)),(5,.int .i64 (i:Int))]) (fun i=>[.var p.v.cells]) (fun i=>i≤l.length) 1 0 (by simp) (fun _=>rfl) ⟨rfl,rfl,rfl,trivial⟩ rfl (fun i hi=>?_) (fun i hi=>?_)
 · simp [qF,qG,Own.under,V.under,V.zO,PL.v,V.cells]
 rcases Nat.lt_or_ge i l.length with hlt | hge
 · have hga : (l.map PE.zF)[i]? = some (PE.v l[i]) := by rw [List.getElem?_map, List.getElem?_eq_getElem hlt]; simp only [Option.map_some, PE.qK]
   have hE:=ih l[i] (List.getElem_mem hlt)
   have ht:=vo vX (PE.ms (fun a b=>a+b)) hlt
   have hb:=qN vX (PE.ms (fun a b=>a+b)) l i
   have hb2:=qN vX (PE.ms (fun a b=>a+b)) l (i+1)
   rw [ht] at hb2
   generalize l[i]=x at hga hE ht hb2
   simp only [JG] at hE
   generalize xq (fun a b=>a+b) (PE.ms (fun a b=>a+b)) (l.take i)=acc at ht hb hb2 ⊢
   repeat' first|(refine zf ?_;first|(refine zq.nil ?_)|(refine zq.ev zx rfl ?_)|(refine qx ?_;first|(refine zq.ans (zk.z8 zx rfl rfl rfl) ?_))|(refine xk ?_;first|(refine zq.ans (zk.add rfl rfl ?_) ?_;(focus (constructor <;> omega))))|(refine xw ?_;first|(refine zq.ans (zk.idx zx rfl rfl rfl rfl rfl hga rfl rfl) ?_))|(refine zy 32 ?_;first|(refine zq.ans (zk.ze rfl rfl rfl (ok32) (hE _)) ?_)))|(refine zH ?_;first|(refine WL.seq ?_)|(refine WL.region (by kernel_rfl) ?_)|(refine WL.block ?_)|(refine WL.skip ?_)|(refine zu ?_;first|(refine WL.zJ rfl ?_ ?_;(focus (first|(simp <;> omega))))))|(refine zw ?_)|(refine zQ ?_)
   refine qB.of (i+1) ?_ ?_ ?_ rfl
   · omega
   · omega
   rw [ht]
   repeat' first | exact qz.nil |(refine qz.mk rfl ?_ ?_) | rfl |(simp <;> fail)|(simp;omega)
 · rw [List.take_of_length_le hge]
   repeat' first|(refine zf ?_;first|(refine zq.nil ?_)|(refine zq.ev zx rfl ?_)|(refine qx ?_;first|(refine zq.ans (zk.z8 zx rfl rfl rfl) ?_)))|(refine zH ?_;first|(refine WL.seq ?_)|(refine WL.region (by kernel_rfl) ?_)|(refine WL.exit ?_)|(refine WL.ret ?_)|(refine zu ?_;first|(refine WL.zY rfl ?_ ?_;(focus (first|(simp <;> omega))))))|(refine zw ?_)|(refine zC ?_)|(refine zV ?_)|(refine zL ?_)|(refine zh.r1 (r := .tmp 2) (.inl rfl) (zn.tmp rfl) ?_)|(refine zX.mk ?_)
   rfl
theorem VE (e:PE):qV e.v≤1048576→JG Tryz.prog 32 (fun a b=>a+b) e:=by
 induction e using PE.ind with
 | h e ih1 ih2 =>
   intro hw s
   rw [PE.Jm]
   have e1:=PE.wG e
   have e2:=gW e.kids
   have e3:=QS e.sub
   have hsl:=xW PE.xu e.sub
   have hkl:=xW PE.zF e.kids
   have hk:=vJ vX (PE.ms (fun a b=>a+b)) e.kids
   have hm:=x9 (f:=PE.ms (fun a b=>a+b)) (g:=fun k=>1+qV k.v) (l:=e.kids) fun k _=>PE.bD vX k
   have hm2:=x9 (f:=PE.yU (fun a b=>a+b)) (g:=fun k:PL=>qV (PL.v k)) (l:=e.sub) fun k _=>PL.bD vX k
   refine zi.pure Tryz.func32 rfl (by kernel_rfl) (by simp) ?_
   repeat' first|(refine zf ?_;first|(refine zq.nil ?_)|(refine zq.ev zx rfl ?_)|(refine qW ?_;refine zq.box rfl rfl rfl rfl ?_))|(refine zH ?_;first|(refine WL.seq ?_)|(refine WL.region (by kernel_rfl) ?_)|(refine WL.block ?_))|(refine zw ?_)
   refine WL.xK (fun i:Nat=>e.kids.length - i) (fun i=>[(1,.ptr (s.next+0) 0),(3,.int .i64 (1+xq (fun a b=>a+b) (PE.ms (fun a b=>a+b)) (e.kids.take i):Nat)),(4,.int .i64 (i:Int))]) (fun i=>[.var e.v.cells]) (fun i=>i≤e.kids.length) 1 0 (by simp) (fun _=>rfl) ⟨rfl,rfl,rfl,trivial⟩ rfl (fun i hi=>?_) (fun i hi=>?_)
   · simp [qF,qG,Own.under,V.under,V.zO,PE.v,V.cells]
   rcases Nat.lt_or_ge i e.kids.length with hlt | hge
   · have hga : (e.kids.map PE.zF)[i]? = some (PE.v e.kids[i]) := by rw [List.getElem?_map, List.getElem?_eq_getElem hlt]; simp only [Option.map_some, PE.qK]
     have hE:=ih1 e.kids[i] (List.getElem_mem hlt) (Nat.le_trans (PE.vD (List.getElem_mem hlt)) hw)
     have ht:=vo vX (PE.ms (fun a b=>a+b)) hlt
     have hb:=qN vX (PE.ms (fun a b=>a+b)) e.kids i
     have hb2:=qN vX (PE.ms (fun a b=>a+b)) e.kids (i+1)
     rw [ht] at hb2
     generalize e.kids[i]=x at hga hE ht hb2
     simp only [JG] at hE
     generalize xq (fun a b=>a+b) (PE.ms (fun a b=>a+b)) (e.kids.take i)=acc at ht hb hb2 ⊢
     repeat' first|(refine zf ?_;first|(refine zq.nil ?_)|(refine zq.ev zx rfl ?_)|(refine zo ?_;first|(refine zq.ans (zk.zm zx rfl rfl rfl rfl) ?_))|(refine qx ?_;first|(refine zq.ans (zk.z8 zx rfl rfl rfl) ?_))|(refine xk ?_;first|(refine zq.ans (zk.add rfl rfl ?_) ?_;(focus (constructor <;> omega))))|(refine xw ?_;first|(refine zq.ans (zk.idx zx rfl rfl rfl rfl rfl hga rfl rfl) ?_))|(refine zy 32 ?_;first|(refine zq.ans (zk.ze rfl rfl rfl (ok32) (hE _)) ?_)))|(refine zH ?_;first|(refine WL.seq ?_)|(refine WL.region (by kernel_rfl) ?_)|(refine WL.block ?_)|(refine WL.skip ?_)|(refine zu ?_;first|(refine WL.zJ rfl ?_ ?_;(focus (first|(simp <;> omega))))))|(refine zw ?_)|(refine zQ ?_)
     refine qB.of (i+1) ?_ ?_ ?_ rfl
     · omega
     · omega
     rw [ht]
     repeat' first | exact qz.nil |(refine qz.mk rfl ?_ ?_) | rfl |(simp <;> fail)|(simp;omega)
   · rw [List.take_of_length_le hge]
     generalize xq (fun a b=>a+b) (PE.ms (fun a b=>a+b)) e.kids=kk at hk ⊢
     repeat' first|(refine zf ?_;first|(refine zq.nil ?_)|(refine zq.ev zx rfl ?_)|(refine zo ?_;first|(refine zq.ans (zk.zm zx rfl rfl rfl rfl) ?_))|(refine qx ?_;first|(refine zq.ans (zk.z8 zx rfl rfl rfl) ?_)))|(refine zH ?_;first|(refine WL.seq ?_)|(refine WL.region (by kernel_rfl) ?_)|(refine WL.block ?_)|(refine WL.exit ?_)|(refine zu ?_;first|(refine WL.zY rfl ?_ ?_;(focus (first|(simp <;> omega))))))|(refine zw ?_)|(refine zC ?_)|(refine zV ?_)|(refine zL ?_)
     refine WL.xK (fun i:Nat=>e.sub.length - i) (fun i=>[(1,.ptr (s.next+0) 0),(3,.int .i64 (1+(kk+xq (fun a b=>a+b) (PE.yU (fun a b=>a+b)) (e.sub.take i)):Nat)),(5,.int .i64 (i:Int))]) (fun i=>[.var e.v.cells]) (fun i=>i≤e.sub.length) 1 0 (by simp) (fun _=>rfl) ⟨rfl,by simp [xq,lk],rfl,trivial⟩ rfl (fun i hi=>?_) (fun i hi=>?_)
     · simp [qF,qG,Own.under,V.under,V.zO,PE.v,V.cells]
     rcases Nat.lt_or_ge i e.sub.length with hlt | hge
     · have hga : (e.sub.map PE.xu)[i]? = some (PL.v e.sub[i]) := by rw [List.getElem?_map, List.getElem?_eq_getElem hlt]; simp only [Option.map_some, PE.kX]
       have hE:=fun t=>gH e.sub[i] (Nat.le_trans (PE.jB (List.getElem_mem hlt)) hw) (fun k hk=>ih2 _ (List.getElem_mem hlt) k hk (Nat.le_trans (PL.jq hk) (Nat.le_trans (PE.jB (List.getElem_mem hlt)) hw))) t
       have ht:=vo vX (PE.yU (fun a b=>a+b)) hlt
       have hb:=qN vX (PE.yU (fun a b=>a+b)) e.sub i
       have hb2:=qN vX (PE.yU (fun a b=>a+b)) e.sub (i+1)
       rw [ht] at hb2
       generalize e.sub[i]=x at hga hE ht hb2
       generalize xq (fun a b=>a+b) (PE.yU (fun a b=>a+b)) (e.sub.take i)=acc at ht hb hb2 ⊢
       repeat' first|(refine zf ?_;first|(refine zq.nil ?_)|(refine zq.ev zx rfl ?_)|(refine zo ?_;first|(refine zq.ans (zk.zm zx rfl rfl rfl rfl) ?_))|(refine qx ?_;first|(refine zq.ans (zk.z8 zx rfl rfl rfl) ?_))|(refine xk ?_;first|(refine zq.ans (zk.add rfl rfl ?_) ?_;(focus (constructor <;> omega))))|(refine xw ?_;first|(refine zq.ans (zk.idx zx rfl rfl rfl rfl rfl hga rfl rfl) ?_))|(refine zy 11 ?_;first|(refine zq.ans (zk.ze rfl rfl rfl (BD) (hE _)) ?_)))|(refine zH ?_;first|(refine WL.seq ?_)|(refine WL.region (by kernel_rfl) ?_)|(refine WL.block ?_)|(refine WL.skip ?_)|(refine zu ?_;first|(refine WL.zJ rfl ?_ ?_;(focus (first|(simp <;> omega))))))|(refine zw ?_)|(refine zQ ?_)
       refine qB.of (i+1) ?_ ?_ ?_ rfl
       · omega
       · omega
       rw [ht]
       repeat' first | exact qz.nil |(refine qz.mk rfl ?_ ?_) | rfl |(simp <;> fail)|(simp;omega)
     · rw [List.take_of_length_le hge]
       have hb:=vJ vX (PE.yU (fun a b=>a+b)) e.sub
       generalize xq (fun a b=>a+b) (PE.yU (fun a b=>a+b)) e.sub=acc at hb ⊢
       repeat' first|(refine zf ?_;first|(refine zq.nil ?_)|(refine zq.ev zx rfl ?_)|(refine zo ?_;first|(refine zq.ans (zk.zm zx rfl rfl rfl rfl) ?_))|(refine qx ?_;first|(refine zq.ans (zk.z8 zx rfl rfl rfl) ?_)))|(refine zH ?_;first|(refine WL.seq ?_)|(refine WL.region (by kernel_rfl) ?_)|(refine WL.exit ?_)|(refine WL.ret ?_)|(refine zu ?_;first|(refine WL.zY rfl ?_ ?_;(focus (first|(simp <;> omega))))))|(refine zw ?_)|(refine zC ?_)|(refine zV ?_)|(refine zL ?_)|(refine zh.r1 (r := .tmp 2) (.inl rfl) (zn.tmp rfl) ?_)|(refine zX.mk ?_)
       all_goals (show V.int .i64 _=V.int .i64 _)
       all_goals congr 1
       all_goals omega
theorem gL (p:PL) (hw:qV p.v≤1048576) (s:S):VCalls Tryz.prog 11 [p.v] s (fun v s'=>v = .int .i64 (PE.yU (fun a b=>a+b) p:Nat)∧s'=s):=gH p hw (fun k hk=>VE k (Nat.le_trans (PL.jq hk) hw)) s
theorem fZ (p:PL) (hw:qV p.v≤1048576) (ih:∀ k∈p.parts,JG Tryz.prog 31 (fun a b=>max a b) k) (s:S):VCalls Tryz.prog 10 [p.v] s (fun v s'=>v = .int .i64 (PE.yU (fun a b=>max a b) p:Nat)∧s'=s):=by
 rw [PE.pU vK]
 have hl:=PL.vO p
 have hlen:=PL.vV p
 have hm:=x9 (f:=PE.ms (fun a b=>max a b)) (g:=fun k=>1+qV k.v) (l:=p.parts) fun k _=>PE.bD vK k
 refine zi.pure Tryz.func10 rfl (by kernel_rfl) (by simp) ?_
 have hP:=fun t=>gY p hw t
 generalize p.parts=l at hP hm hl hlen ih ⊢
 repeat' first|(refine zf ?_;first|(refine zq.nil ?_)|(refine zq.ev zx rfl ?_)|(refine qW ?_;refine zq.box rfl rfl rfl rfl ?_)|(refine zo ?_;first|(refine zq.ans (zk.zm zx rfl rfl rfl rfl) ?_))|(refine zy 29 ?_;first|(refine zq.ans (zk.ze rfl rfl rfl (Ef) (hP _)) ?_)))|(refine zH ?_;first|(refine WL.seq ?_)|(refine WL.region (by kernel_rfl) ?_)|(refine WL.block ?_))|(refine zw ?_)
 refine WL.xK (fun i:Nat=>l.length - i) (fun i=>[(3,.int .i64 (xq (fun a b=>max a b) (PE.ms (fun a b=>max a b)) (l.take i):Nat)),(4,.sl 0 (l.map PE.zF)),(5,.int .i64 (i:Int))]) (fun i=>[.var p.v.cells]) (fun i=>i≤l.length) 1 0 (by simp) (fun _=>rfl) ⟨rfl,rfl,rfl,trivial⟩ rfl (fun i hi=>?_) (fun i hi=>?_)
 · simp [qF,qG,Own.under,V.under,V.zO,PL.v,V.cells]
 rcases Nat.lt_or_ge i l.length with hlt | hge
 · have hga : (l.map PE.zF)[i]? = some (PE.v l[i]) := by rw [List.getElem?_map, List.getElem?_eq_getElem hlt]; simp only [Option.map_some, PE.qK]
   have hE:=ih l[i] (List.getElem_mem hlt)
   have ht:=vo vK (PE.ms (fun a b=>max a b)) hlt
   have hb:=qN vK (PE.ms (fun a b=>max a b)) l i
   have hb2:=qN vK (PE.ms (fun a b=>max a b)) l (i+1)
   rw [ht] at hb2
   generalize l[i]=x at hga hE ht hb2
   simp only [JG] at hE
   generalize xq (fun a b=>max a b) (PE.ms (fun a b=>max a b)) (l.take i)=acc at ht hb hb2 ⊢
   repeat' first|(refine zf ?_;first|(refine zq.nil ?_)|(refine zq.ev zx rfl ?_)|(refine qx ?_;first|(refine zq.ans (zk.z8 zx rfl rfl rfl) ?_))|(refine xk ?_;first|(refine zq.ans (zk.add rfl rfl ?_) ?_;(focus (constructor <;> omega))))|(refine xw ?_;first|(refine zq.ans (zk.idx zx rfl rfl rfl rfl rfl hga rfl rfl) ?_))|(refine zy 30 ?_;first|(refine zq.ans (zk.ze rfl rfl rfl (Eh) (gB _ _ _)) ?_))|(refine zy 31 ?_;first|(refine zq.ans (zk.ze rfl rfl rfl (G8) (hE _)) ?_)))|(refine zH ?_;first|(refine WL.seq ?_)|(refine WL.region (by kernel_rfl) ?_)|(refine WL.block ?_)|(refine WL.skip ?_)|(refine zu ?_;first|(refine WL.zJ rfl ?_ ?_;(focus (first|(simp <;> omega))))))|(refine zw ?_)|(refine zQ ?_)
   refine qB.of (i+1) ?_ ?_ ?_ rfl
   · omega
   · omega
   rw [ht]
   repeat' first | exact qz.nil |(refine qz.mk rfl ?_ ?_) | rfl |(simp <;> fail)|(simp;omega)
 · rw [List.take_of_length_le hge]
   repeat' first|(refine zf ?_;first|(refine zq.nil ?_)|(refine zq.ev zx rfl ?_)|(refine qx ?_;first|(refine zq.ans (zk.z8 zx rfl rfl rfl) ?_)))|(refine zH ?_;first|(refine WL.seq ?_)|(refine WL.region (by kernel_rfl) ?_)|(refine WL.exit ?_)|(refine WL.ret ?_)|(refine zu ?_;first|(refine WL.zY rfl ?_ ?_;(focus (first|(simp <;> omega))))))|(refine zw ?_)|(refine zC ?_)|(refine zV ?_)|(refine zL ?_)|(refine zh.r1 (r := .tmp 2) (.inl rfl) (zn.tmp rfl) ?_)|(refine zX.mk ?_)
   rfl
theorem Jp (e:PE):qV e.v≤1048576→JG Tryz.prog 31 (fun a b=>max a b) e:=by
 induction e using PE.ind with
 | h e ih1 ih2 =>
   intro hw s
   rw [PE.Jm]
   have e1:=PE.wG e
   have e2:=gW e.kids
   have e3:=QS e.sub
   have hsl:=xW PE.xu e.sub
   have hkl:=xW PE.zF e.kids
   have hk:=vJ vK (PE.ms (fun a b=>max a b)) e.kids
   have hm:=x9 (f:=PE.ms (fun a b=>max a b)) (g:=fun k=>1+qV k.v) (l:=e.kids) fun k _=>PE.bD vK k
   have hm2:=x9 (f:=PE.yU (fun a b=>max a b)) (g:=fun k:PL=>qV (PL.v k)) (l:=e.sub) fun k _=>PL.bD vK k
   refine zi.pure Tryz.func31 rfl (by kernel_rfl) (by simp) ?_
   repeat' first|(refine zf ?_;first|(refine zq.nil ?_)|(refine zq.ev zx rfl ?_)|(refine qW ?_;refine zq.box rfl rfl rfl rfl ?_))|(refine zH ?_;first|(refine WL.seq ?_)|(refine WL.region (by kernel_rfl) ?_)|(refine WL.block ?_))|(refine zw ?_)
   refine WL.xK (fun i:Nat=>e.kids.length - i) (fun i=>[(1,.ptr (s.next+0) 0),(3,.int .i64 (xq (fun a b=>max a b) (PE.ms (fun a b=>max a b)) (e.kids.take i):Nat)),(4,.int .i64 (i:Int))]) (fun i=>[.var e.v.cells]) (fun i=>i≤e.kids.length) 1 0 (by simp) (fun _=>rfl) ⟨rfl,rfl,rfl,trivial⟩ rfl (fun i hi=>?_) (fun i hi=>?_)
   · simp [qF,qG,Own.under,V.under,V.zO,PE.v,V.cells]
   rcases Nat.lt_or_ge i e.kids.length with hlt | hge
   · have hga : (e.kids.map PE.zF)[i]? = some (PE.v e.kids[i]) := by rw [List.getElem?_map, List.getElem?_eq_getElem hlt]; simp only [Option.map_some, PE.qK]
     have hE:=ih1 e.kids[i] (List.getElem_mem hlt) (Nat.le_trans (PE.vD (List.getElem_mem hlt)) hw)
     have ht:=vo vK (PE.ms (fun a b=>max a b)) hlt
     have hb:=qN vK (PE.ms (fun a b=>max a b)) e.kids i
     have hb2:=qN vK (PE.ms (fun a b=>max a b)) e.kids (i+1)
     rw [ht] at hb2
     generalize e.kids[i]=x at hga hE ht hb2
     simp only [JG] at hE
     generalize xq (fun a b=>max a b) (PE.ms (fun a b=>max a b)) (e.kids.take i)=acc at ht hb hb2 ⊢
     repeat' first|(refine zf ?_;first|(refine zq.nil ?_)|(refine zq.ev zx rfl ?_)|(refine zo ?_;first|(refine zq.ans (zk.zm zx rfl rfl rfl rfl) ?_))|(refine qx ?_;first|(refine zq.ans (zk.z8 zx rfl rfl rfl) ?_))|(refine xk ?_;first|(refine zq.ans (zk.add rfl rfl ?_) ?_;(focus (constructor <;> omega))))|(refine xw ?_;first|(refine zq.ans (zk.idx zx rfl rfl rfl rfl rfl hga rfl rfl) ?_))|(refine zy 30 ?_;first|(refine zq.ans (zk.ze rfl rfl rfl (Eh) (gB _ _ _)) ?_))|(refine zy 31 ?_;first|(refine zq.ans (zk.ze rfl rfl rfl (G8) (hE _)) ?_)))|(refine zH ?_;first|(refine WL.seq ?_)|(refine WL.region (by kernel_rfl) ?_)|(refine WL.block ?_)|(refine WL.skip ?_)|(refine zu ?_;first|(refine WL.zJ rfl ?_ ?_;(focus (first|(simp <;> omega))))))|(refine zw ?_)|(refine zQ ?_)
     refine qB.of (i+1) ?_ ?_ ?_ rfl
     · omega
     · omega
     rw [ht]
     repeat' first | exact qz.nil |(refine qz.mk rfl ?_ ?_) | rfl |(simp <;> fail)|(simp;omega)
   · rw [List.take_of_length_le hge]
     generalize xq (fun a b=>max a b) (PE.ms (fun a b=>max a b)) e.kids=kk at hk ⊢
     repeat' first|(refine zf ?_;first|(refine zq.nil ?_)|(refine zq.ev zx rfl ?_)|(refine zo ?_;first|(refine zq.ans (zk.zm zx rfl rfl rfl rfl) ?_))|(refine qx ?_;first|(refine zq.ans (zk.z8 zx rfl rfl rfl) ?_)))|(refine zH ?_;first|(refine WL.seq ?_)|(refine WL.region (by kernel_rfl) ?_)|(refine WL.block ?_)|(refine WL.exit ?_)|(refine zu ?_;first|(refine WL.zY rfl ?_ ?_;(focus (first|(simp <;> omega))))))|(refine zw ?_)|(refine zC ?_)|(refine zV ?_)|(refine zL ?_)
     refine WL.xK (fun i:Nat=>e.sub.length - i) (fun i=>[(1,.ptr (s.next+0) 0),(3,.int .i64 (max kk (xq (fun a b=>max a b) (PE.yU (fun a b=>max a b)) (e.sub.take i)):Nat)),(5,.int .i64 (i:Int))]) (fun i=>[.var e.v.cells]) (fun i=>i≤e.sub.length) 1 0 (by simp) (fun _=>rfl) ⟨rfl,by simp [xq,lk],rfl,trivial⟩ rfl (fun i hi=>?_) (fun i hi=>?_)
     · simp [qF,qG,Own.under,V.under,V.zO,PE.v,V.cells]
     rcases Nat.lt_or_ge i e.sub.length with hlt | hge
     · have hga : (e.sub.map PE.xu)[i]? = some (PL.v e.sub[i]) := by rw [List.getElem?_map, List.getElem?_eq_getElem hlt]; simp only [Option.map_some, PE.kX]
       have hE:=fun t=>fZ e.sub[i] (Nat.le_trans (PE.jB (List.getElem_mem hlt)) hw) (fun k hk=>ih2 _ (List.getElem_mem hlt) k hk (Nat.le_trans (PL.jq hk) (Nat.le_trans (PE.jB (List.getElem_mem hlt)) hw))) t
       have ht:=vo vK (PE.yU (fun a b=>max a b)) hlt
       have hb:=qN vK (PE.yU (fun a b=>max a b)) e.sub i
       have hb2:=qN vK (PE.yU (fun a b=>max a b)) e.sub (i+1)
       rw [ht] at hb2
       generalize e.sub[i]=x at hga hE ht hb2
       generalize xq (fun a b=>max a b) (PE.yU (fun a b=>max a b)) (e.sub.take i)=acc at ht hb hb2 ⊢
       repeat' first|(refine zf ?_;first|(refine zq.nil ?_)|(refine zq.ev zx rfl ?_)|(refine zo ?_;first|(refine zq.ans (zk.zm zx rfl rfl rfl rfl) ?_))|(refine qx ?_;first|(refine zq.ans (zk.z8 zx rfl rfl rfl) ?_))|(refine xk ?_;first|(refine zq.ans (zk.add rfl rfl ?_) ?_;(focus (constructor <;> omega))))|(refine xw ?_;first|(refine zq.ans (zk.idx zx rfl rfl rfl rfl rfl hga rfl rfl) ?_))|(refine zy 10 ?_;first|(refine zq.ans (zk.ze rfl rfl rfl (Y0) (hE _)) ?_))|(refine zy 30 ?_;first|(refine zq.ans (zk.ze rfl rfl rfl (Eh) (gB _ _ _)) ?_)))|(refine zH ?_;first|(refine WL.seq ?_)|(refine WL.region (by kernel_rfl) ?_)|(refine WL.block ?_)|(refine WL.skip ?_)|(refine zu ?_;first|(refine WL.zJ rfl ?_ ?_;(focus (first|(simp <;> omega))))))|(refine zw ?_)|(refine zQ ?_)
       refine qB.of (i+1) ?_ ?_ ?_ rfl
       · omega
       · omega
       rw [ht]
       repeat' first | exact qz.nil |(refine qz.mk rfl ?_ ?_) | rfl |(simp <;> fail)|(simp;omega)
     · rw [List.take_of_length_le hge]
       have hb:=vJ vK (PE.yU (fun a b=>max a b)) e.sub
       generalize xq (fun a b=>max a b) (PE.yU (fun a b=>max a b)) e.sub=acc at hb ⊢
       repeat' first|(refine zf ?_;first|(refine zq.nil ?_)|(refine zq.ev zx rfl ?_)|(refine zo ?_;first|(refine zq.ans (zk.zm zx rfl rfl rfl rfl) ?_))|(refine qx ?_;first|(refine zq.ans (zk.z8 zx rfl rfl rfl) ?_))|(refine xk ?_;first|(refine zq.ans (zk.add rfl rfl ?_) ?_;(focus (constructor <;> omega)))))|(refine zH ?_;first|(refine WL.seq ?_)|(refine WL.region (by kernel_rfl) ?_)|(refine WL.exit ?_)|(refine WL.ret ?_)|(refine zu ?_;first|(refine WL.zY rfl ?_ ?_;(focus (first|(simp <;> omega))))))|(refine zw ?_)|(refine zC ?_)|(refine zV ?_)|(refine zL ?_)|(refine zh.r1 (r := .tmp 2) (.inl rfl) (zn.tmp rfl) ?_)|(refine zX.mk ?_)
       all_goals (show V.int .i64 _=V.int .i64 _)
       all_goals congr 1
       all_goals omega
theorem fQ (p:PL) (hw:qV p.v≤1048576) (s:S):VCalls Tryz.prog 10 [p.v] s (fun v s'=>v = .int .i64 (PE.yU (fun a b=>max a b) p:Nat)∧s'=s):=fZ p hw (fun k hk=>Jp k (Nat.le_trans (PL.jq hk) hw)) s
end Go.Proofs.YtolhegocbkckdaaGreat
