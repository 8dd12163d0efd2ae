/-
  Slices of plans' trees hold no variables.
  What has a type of plans' trees is one.
  Copies, sizes and comparisons of plans' trees and plans. Printed by a program of our own; no condition.
  Parts, sizes and depths of plans, of the program and of the reference, and the laws. Printed by a program of our own; no condition.
  Own work; no condition.
-/
import Derived.Test.YtikghanejpigjaaDPE
import Derived.Test.YtikghanejpigjaaMg24
namespace Go.Proofs.Ytikghanejpigjaa
open Go
theorem plainL_of' {id:Nat} {xs:List V} (h:V.plain (.sl id xs)=true):V.plainL xs=true:=by
 simp only [V.plain,Bool.and_eq_true] at h
 exact h.2
@[simp] theorem PE.under_S (n:Nat) (l:List PE):V.underL n (l.map PE.toV)=true:=underL_dat (plainL_dat _ (plainL_of' (plain_PExprS l)))
@[simp] theorem PE.under_SS (n:Nat) (l:List (List PE)):V.underL n (l.map PE.vS)=true:=underL_dat (plainL_dat _ (plainL_of' (plain_PExprSS l)))
@[simp] theorem PE.under_O (n:Nat) (l:List (PE × Bool)):V.underL n (l.map PE.sv)=true:=underL_dat (plainL_dat _ (plainL_of' (plain_PSortS l)))
@[simp] theorem PE.under_P (n:Nat) (l:List PL):V.underL n (l.map PE.planV)=true:=underL_dat (plainL_dat _ (plainL_of' (plain_PlanS l)))
end Go.Proofs.Ytikghanejpigjaa

namespace Go.Proofs.Ytikghanejpigjaa
open Go
set_option linter.unusedSimpArgs false
set_option linter.unusedVariables false
end Go.Proofs.Ytikghanejpigjaa

namespace Go.Proofs.Ytikghanejpigjaa
open Go
set_option linter.unusedSimpArgs false
set_option linter.unusedVariables false
def ToC (P:Program) (g:FuncId) (d:V):Prop:=∀ t:S,VCalls P g [d] t (fun v t'=>Own2 d v t')
def SzC (P:Program) (g:FuncId) (d:V):Prop:=∀ (left:Int) (s:S),0≤left→left≤1048576→VCalls P g [d,.int .i64 left] s (fun v s'=>v = .int .i64 (szI (wgt d) left)∧s'=s)
def EqC (P:Program) (g:FuncId) (d:V):Prop:=∀ s:S,VCalls P g [d,d] s (fun v s'=>v = .bool true∧s'=s)
theorem SzC.ok {P:Program} {g:FuncId} {d:V} (h:SzC P g d) {left:Int} (h1:left≤1048576) (h2:(wgt d:Int)≤left) (s:S):VCalls P g [d,.int .i64 left] s (fun v s'=>v = .int .i64 (left - (wgt d:Nat))∧s'=s):=by
 rw [← szI_pos (w:=wgt d) (by omega)];exact h left s (by omega) h1
theorem ToC.pure {P:Program} {g:FuncId} {d:V} (h:ToC P g d) (hd:d.plain=true) (s:S):VCalls P g [d] s (fun v s'=>v=d∧s'=s):=VCalls.pureOf (plainL_cons hd rfl) hd h s
theorem plainL_of {id:Nat} {xs:List V} (h:V.plain (.sl id xs)=true):V.plainL xs=true:=by
 simp only [V.plain,Bool.and_eq_true] at h
 exact h.2
theorem PE.wgt_eq2 (x:PE):wgt x.v=x.value.wt+wgt (.sl 0 (x.kids.map PE.toV))+wgt (.sl 0 (x.sub.map PE.planV)):=PE.wgt_eq x
theorem PExprS_len (l:List PE):∀ x∈l.map PE.toV,x.cells.length=10:=by
 intro v hv
 obtain ⟨x,_,rfl⟩:=List.mem_map.1 hv
 rw [PE.toV_eq];rfl
theorem PExprS_wgt (l:List PE):wgt (.sl 0 (l.map PE.toV))=slW (fun x=>wgt (PE.v x)) l:=by
 rw [wgt_sl]
 simp only [PE.toV_eq]
theorem PExprSS_len (l:List (List PE)):∀ x∈l.map PE.vS,x.cells.length=1:=by
 intro v hv
 obtain ⟨x,_,rfl⟩:=List.mem_map.1 hv
 rfl
theorem PExprSS_wgt (l:List (List PE)):wgt (.sl 0 (l.map PE.vS))=slW (fun x=>wgt (PE.vS x)) l:=by
 rw [wgt_sl]
theorem PSortS_len (l:List (PE × Bool)):∀ x∈l.map PE.sv,x.cells.length=11:=by
 intro v hv
 obtain ⟨x,_,rfl⟩:=List.mem_map.1 hv
 rfl
theorem PSortS_wgt (l:List (PE × Bool)):wgt (.sl 0 (l.map PE.sv))=slW (fun x=>wgt (PE.sv x)) l:=by
 rw [wgt_sl]
theorem PlanS_len (l:List PL):∀ x∈l.map PE.planV,x.cells.length=8:=by
 intro v hv
 obtain ⟨x,_,rfl⟩:=List.mem_map.1 hv
 rw [PE.planV_eq];rfl
theorem PlanS_wgt (l:List PL):wgt (.sl 0 (l.map PE.planV))=slW (fun x=>wgt (PL.v x)) l:=by
 rw [wgt_sl]
 simp only [PE.planV_eq]
theorem PE.wgt_kid {e k:PE} (h:k∈e.kids):wgt k.v≤wgt e.v:=by
 have h1:=wgt_mem (f:=PE.toV) h
 rw [PE.toV_eq] at h1
 have:=PE.wgt_eq2 e
 omega
theorem PE.wgt_sub {e:PE} {p:PL} (h:p∈e.sub):wgt p.v≤wgt e.v:=by
 have h1:=wgt_mem (f:=PE.planV) h
 rw [PE.planV_eq] at h1
 have:=PE.wgt_eq2 e
 omega
theorem PL.wgt_part2 {p:PL} {k:PE} (h:k∈p.parts):wgt k.v≤wgt p.v:=by
 have:=PL.wgt_part h
 rwa [PE.toV_eq] at this
theorem PL.wgt_on {p:PL} {l:List PE} (h:l∈p.on):wgt (.sl 0 (l.map PE.toV))≤wgt p.v:=by
 have h1:=wgt_mem (f:=PE.vS) h
 have:=PL.wgt_eq p
 simp only [PE.vS] at h1
 omega
end Go.Proofs.Ytikghanejpigjaa

namespace Go.Proofs.Ytikghanejpigjaa
open Go
set_option linter.unusedSimpArgs false
set_option linter.unusedVariables false
def foldW (op:Nat→Nat→Nat) {α : Type} (f : α → Nat):List α → Nat
 | []=>0
 | x::l=>op (f x) (foldW op f l)
structure OpOk (op:Nat→Nat→Nat):Prop where
 assoc:∀ a b c,op (op a b) c=op a (op b c)
 z1:∀ a,op 0 a=a
 z2:∀ a,op a 0=a
 le:∀ a b,op a b≤a+b
theorem addOk:OpOk (fun a b=>a+b):=⟨Nat.add_assoc,Nat.zero_add,Nat.add_zero,fun _ _=>Nat.le_refl _⟩
theorem maxOk:OpOk (fun a b=>max a b):=⟨Nat.max_assoc,Nat.zero_max,Nat.max_zero,fun a b=>by omega⟩
section
variable {op:Nat→Nat→Nat} (h:OpOk op)
include h
theorem foldW_append {α : Type} (f : α → Nat) (a b:List α):foldW op f (a++b)=op (foldW op f a) (foldW op f b):=by
 induction a with
 | nil=>simp only [List.nil_append,foldW,h.z1]
 | cons x a ih=>simp only [List.cons_append,foldW,ih,h.assoc]
theorem foldW_le {α : Type} (f : α → Nat) (l:List α):foldW op f l≤sumW f l:=by
 induction l with
 | nil=>simp [foldW,sumW]
 | cons x l ih =>
   have:=h.le (f x) (foldW op f l)
   simp only [foldW,sumW,List.map_cons,List.sum_cons] at *
   omega
theorem foldW_le_take {α : Type} (f : α → Nat) (l:List α) (i:Nat):foldW op f (l.take i)≤sumW f l:=Nat.le_trans (foldW_le h f _) (sumW_take_le f l i)
theorem foldW_flatten {α : Type} (f : α → Nat) (l:List (List α)):foldW op f l.flatten=foldW op (foldW op f) l:=by
 induction l with
 | nil=>rfl
 | cons x l ih=>simp only [List.flatten_cons,foldW_append h,ih,foldW]
end
theorem foldW_map {op:Nat→Nat→Nat} {α β : Type} (f : β → Nat) (g : α → β) (l:List α):foldW op f (l.map g)=foldW op (fun x=>f (g x)) l:=by
 induction l with
 | nil=>rfl
 | cons x l ih=>simp only [List.map_cons,foldW,ih]
theorem sumW_mono {α : Type} {f g : α → Nat}:∀ {l:List α},(∀ x∈l,f x≤g x)→sumW f l≤sumW g l
 | [],_=>Nat.le_refl _
 | x::l,h=>by
   have h1:=h x (by simp)
   have h2:=sumW_mono (l:=l) fun y hy=>h y (by simp [hy])
   simp only [sumW,List.map_cons,List.sum_cons] at *
   omega
theorem sumW_app {α : Type} (f : α → Nat) (a b:List α):sumW f (a++b)=sumW f a+sumW f b:=by simp only [sumW,List.map_append,List.sum_append]
theorem sumW_one {α : Type} (f : α → Nat) (l:List α):sumW (fun x=>1+f x) l=slW f l:=by
 induction l with
 | nil=>rfl
 | cons x l ih=>simp only [slW,sumW,List.map_cons,List.sum_cons,List.length_cons] at *;omega
mutual
def PE.ms (op:Nat→Nat→Nat):PE→Nat
 | .mk _ _ _ _ _ _ kids sub=>1+op (PE.msL op kids) (PE.msS op sub)
def PE.msL (op:Nat→Nat→Nat):List PE→Nat
 | []=>0
 | x::xs=>op (PE.ms op x) (PE.msL op xs)
def PE.msS (op:Nat→Nat→Nat):List (PlanOf PE)→Nat
 | []=>0
 | x::xs=>op (PE.msP op x) (PE.msS op xs)
def PE.msP (op:Nat→Nat→Nat):PlanOf PE→Nat
 | ⟨_,on,w,o,i,_,_,_⟩=>op (op (op (PE.msLL op on) (PE.msL op w)) (PE.msO op o)) (PE.msL op i)
def PE.msLL (op:Nat→Nat→Nat):List (List PE)→Nat
 | []=>0
 | x::xs=>op (PE.msL op x) (PE.msLL op xs)
def PE.msO (op:Nat→Nat→Nat):List (PE × Bool)→Nat
 | []=>0
 | x::xs=>op (PE.ms1 op x) (PE.msO op xs)
def PE.ms1 (op:Nat→Nat→Nat):PE × Bool→Nat
 |(e,_)=>PE.ms op e
end
theorem PE.msL_eq (op:Nat→Nat→Nat):∀ l:List PE,PE.msL op l=foldW op (PE.ms op) l
 | []=>rfl
 | x::l=>by simp only [PE.msL,PE.msL_eq op l,foldW]
theorem PE.msS_eq (op:Nat→Nat→Nat):∀ l:List PL,PE.msS op l=foldW op (PE.msP op) l
 | []=>rfl
 | x::l=>by simp only [PE.msS,PE.msS_eq op l,foldW]
theorem PE.msLL_eq (op:Nat→Nat→Nat):∀ l:List (List PE),PE.msLL op l=foldW op (foldW op (PE.ms op)) l
 | []=>rfl
 | x::l=>by simp only [PE.msLL,PE.msLL_eq op l,foldW,PE.msL_eq]
theorem PE.msO_eq (op:Nat→Nat→Nat):∀ l:List (PE × Bool),PE.msO op l=foldW op (fun x=>PE.ms op x.1) l
 | []=>rfl
 | x::l=>by
   obtain ⟨e,b⟩:=x
   simp only [PE.msO,PE.msO_eq op l,foldW,PE.ms1]
theorem PE.ms_eq (op:Nat→Nat→Nat) (x:PE):x.ms op=1+op (foldW op (PE.ms op) x.kids) (foldW op (PE.msP op) x.sub):=by
 cases x
 simp only [PE.ms,PE.msL_eq,PE.msS_eq,PE.kids,PE.sub]
theorem PE.msP_eq {op:Nat→Nat→Nat} (h:OpOk op) (p:PL):PE.msP op p=foldW op (PE.ms op) p.parts:=by
 obtain ⟨t,on,w,o,i,n,d,l⟩:=p
 simp only [PE.msP,PlanOf.parts,foldW_append h,foldW_flatten h,foldW_map,PE.msL_eq,PE.msLL_eq,PE.msO_eq]
theorem PL.parts_w (p:PL):sumW (fun k=>1+wgt k.v) p.parts≤wgt p.v:=by
 have e:=PL.wgt_eq p
 have e1:wgt (.sl 0 (p.wher.map PE.toV))=sumW (fun k=>1+wgt k.v) p.wher:=by rw [wgt_sl,sumW_one];simp only [PE.toV_eq]
 have e2:wgt (.sl 0 (p.items.map PE.toV))=sumW (fun k=>1+wgt k.v) p.items:=by rw [wgt_sl,sumW_one];simp only [PE.toV_eq]
 have e3:wgt (.sl 0 (p.order.map PE.sv))=sumW (fun k=>1+wgt k.v) (p.order.map (·.1)):=by
   rw [wgt_sl,sumW_one]
   simp only [PE.wgt_eqs,slW,sumW,List.length_map,List.map_map]
   rfl
 have e4:sumW (fun k=>1+wgt k.v) p.on.flatten≤wgt (.sl 0 (p.on.map PE.vS)):=by
   rw [wgt_sl]
   generalize p.on=on
   induction on with
   | nil=>simp [sumW]
   | cons x on ih =>
     have ex:wgt (PE.vS x)=sumW (fun k=>1+wgt k.v) x:=by unfold PE.vS;rw [wgt_sl,sumW_one];simp only [PE.toV_eq]
     rw [List.flatten_cons,sumW_app]
     simp only [slW,sumW,List.map_cons,List.sum_cons,List.length_cons] at *
     omega
 simp only [PlanOf.parts,sumW_app]
 omega
theorem sumW_len {α : Type} (f : α → Nat) (l:List α):l.length≤sumW (fun k=>1+f k) l:=by
 rw [sumW_one];exact len_slW f l
theorem PL.parts_len (p:PL):p.parts.length≤wgt p.v:=Nat.le_trans (sumW_len _ _) (PL.parts_w p)
theorem kids_w (l:List PE):sumW (fun k=>1+wgt k.v) l=wgt (.sl 0 (l.map PE.toV)):=by rw [wgt_sl,sumW_one];simp only [PE.toV_eq]
theorem sub_w (l:List PL):sumW (fun k=>wgt (PL.v k)) l≤wgt (.sl 0 (l.map PE.planV)):=by
 rw [wgt_sl]
 simp only [PE.planV_eq,slW]
 exact Nat.le_add_left _ _
theorem PE.ms_le {op:Nat→Nat→Nat} (h:OpOk op) (x:PE):x.ms op≤1+wgt x.v:=by
 induction x using PE.ind with
 | h e ih1 ih2 =>
   have e1:=PE.wgt_eq2 e
   have e2:=foldW_le h (PE.ms op) e.kids
   have e3:=sumW_mono (f:=PE.ms op) (g:=fun k=>1+wgt k.v) (l:=e.kids) ih1
   have e4:=foldW_le h (PE.msP op) e.sub
   have e5:=sumW_mono (f:=PE.msP op) (g:=fun p:PL=>wgt (PL.v p)) (l:=e.sub) fun p hp=>by
     rw [PE.msP_eq h]
     exact Nat.le_trans (foldW_le h _ _) (Nat.le_trans (sumW_mono (ih2 p hp)) (PL.parts_w p))
   have e6:=kids_w e.kids
   have e7:sumW (fun p:PL=>wgt (PL.v p)) e.sub≤_:=sub_w e.sub
   have e8:=h.le (foldW op (PE.ms op) e.kids) (foldW op (PE.msP op) e.sub)
   rw [PE.ms_eq]
   omega
theorem PL.ms_le {op:Nat→Nat→Nat} (h:OpOk op) (p:PL):PE.msP op p≤wgt p.v:=by
 rw [PE.msP_eq h]
 exact Nat.le_trans (foldW_le h _ _) (Nat.le_trans (sumW_mono fun k _=>PE.ms_le h k) (PL.parts_w p))
theorem PL.on_le (p:PL):p.on.length≤wgt p.v:=by
 have e:=PL.wgt_eq p
 have:=wgt_len PE.vS p.on
 omega
def MsC (P:Program) (g:FuncId) (op:Nat→Nat→Nat) (e:PE):Prop:=∀ s:S,VCalls P g [e.v] s (fun v s'=>v = .int .i64 (e.ms op:Nat)∧s'=s)
theorem PE.els (te:Ty) (h:∀ x:PE,elemsA te [PE.v x]=true) (l:List PE):Elems te (l.map PE.toV):=Elems.map fun x=>by rw [PE.toV_eq];exact h x
end Go.Proofs.Ytikghanejpigjaa
