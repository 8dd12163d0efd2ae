/-
  Parts, sizes and depths of plans, of the program and of the reference, and the laws. Printed by a program of our own; no condition.
  References that lead out of a plan's tree, and all references of plans, of the program and of the reference. Printed by a program of our own; no condition.
  The reference's references that lead out of a tree: results that are appended to the caller's slice, over the books.
  Own work; no condition.
-/
import Derived.Test.YtikghanejpigjaaMg36
import Derived.Test.YtikghanejpigjaaMg10
namespace Go.Proofs.Ytikghanejpigjaa
open Go
set_option linter.unusedSimpArgs false
set_option linter.unusedVariables false
def foldW (op:Nat→Nat→Nat) {α : Type} (f : α → Nat):List α → Nat
 | []=>0
 | x::l=>op (f x) (foldW op f l)
structure OpOk (op:Nat→Nat→Nat):Prop where
 assoc:∀ a b c,op (op a b) c=op a (op b c)
 z1:∀ a,op 0 a=a
 z2:∀ a,op a 0=a
 le:∀ a b,op a b≤a+b
theorem addOk:OpOk (fun a b=>a+b):=⟨Nat.add_assoc,Nat.zero_add,Nat.add_zero,fun _ _=>Nat.le_refl _⟩
theorem maxOk:OpOk (fun a b=>max a b):=⟨Nat.max_assoc,Nat.zero_max,Nat.max_zero,fun a b=>by omega⟩
section
variable {op:Nat→Nat→Nat} (h:OpOk op)
include h
theorem foldW_append {α : Type} (f : α → Nat) (a b:List α):foldW op f (a++b)=op (foldW op f a) (foldW op f b):=by
 induction a with
 | nil=>simp only [List.nil_append,foldW,h.z1]
 | cons x a ih=>simp only [List.cons_append,foldW,ih,h.assoc]
theorem foldW_le {α : Type} (f : α → Nat) (l:List α):foldW op f l≤sumW f l:=by
 induction l with
 | nil=>simp [foldW,sumW]
 | cons x l ih =>
   have:=h.le (f x) (foldW op f l)
   simp only [foldW,sumW,List.map_cons,List.sum_cons] at *
   omega
theorem foldW_le_take {α : Type} (f : α → Nat) (l:List α) (i:Nat):foldW op f (l.take i)≤sumW f l:=Nat.le_trans (foldW_le h f _) (sumW_take_le f l i)
theorem foldW_flatten {α : Type} (f : α → Nat) (l:List (List α)):foldW op f l.flatten=foldW op (foldW op f) l:=by
 induction l with
 | nil=>rfl
 | cons x l ih=>simp only [List.flatten_cons,foldW_append h,ih,foldW]
end
theorem foldW_map {op:Nat→Nat→Nat} {α β : Type} (f : β → Nat) (g : α → β) (l:List α):foldW op f (l.map g)=foldW op (fun x=>f (g x)) l:=by
 induction l with
 | nil=>rfl
 | cons x l ih=>simp only [List.map_cons,foldW,ih]
theorem sumW_mono {α : Type} {f g : α → Nat}:∀ {l:List α},(∀ x∈l,f x≤g x)→sumW f l≤sumW g l
 | [],_=>Nat.le_refl _
 | x::l,h=>by
   have h1:=h x (by simp)
   have h2:=sumW_mono (l:=l) fun y hy=>h y (by simp [hy])
   simp only [sumW,List.map_cons,List.sum_cons] at *
   omega
theorem sumW_app {α : Type} (f : α → Nat) (a b:List α):sumW f (a++b)=sumW f a+sumW f b:=by simp only [sumW,List.map_append,List.sum_append]
theorem sumW_one {α : Type} (f : α → Nat) (l:List α):sumW (fun x=>1+f x) l=slW f l:=by
 induction l with
 | nil=>rfl
 | cons x l ih=>simp only [slW,sumW,List.map_cons,List.sum_cons,List.length_cons] at *;omega
mutual
def PE.ms (op:Nat→Nat→Nat):PE→Nat
 | .mk _ _ _ _ _ _ kids sub=>1+op (PE.msL op kids) (PE.msS op sub)
def PE.msL (op:Nat→Nat→Nat):List PE→Nat
 | []=>0
 | x::xs=>op (PE.ms op x) (PE.msL op xs)
def PE.msS (op:Nat→Nat→Nat):List (PlanOf PE)→Nat
 | []=>0
 | x::xs=>op (PE.msP op x) (PE.msS op xs)
def PE.msP (op:Nat→Nat→Nat):PlanOf PE→Nat
 | ⟨_,on,w,o,i,_,_,_⟩=>op (op (op (PE.msLL op on) (PE.msL op w)) (PE.msO op o)) (PE.msL op i)
def PE.msLL (op:Nat→Nat→Nat):List (List PE)→Nat
 | []=>0
 | x::xs=>op (PE.msL op x) (PE.msLL op xs)
def PE.msO (op:Nat→Nat→Nat):List (PE × Bool)→Nat
 | []=>0
 | x::xs=>op (PE.ms1 op x) (PE.msO op xs)
def PE.ms1 (op:Nat→Nat→Nat):PE × Bool→Nat
 |(e,_)=>PE.ms op e
end
theorem PE.msL_eq (op:Nat→Nat→Nat):∀ l:List PE,PE.msL op l=foldW op (PE.ms op) l
 | []=>rfl
 | x::l=>by simp only [PE.msL,PE.msL_eq op l,foldW]
theorem PE.msS_eq (op:Nat→Nat→Nat):∀ l:List PL,PE.msS op l=foldW op (PE.msP op) l
 | []=>rfl
 | x::l=>by simp only [PE.msS,PE.msS_eq op l,foldW]
theorem PE.msLL_eq (op:Nat→Nat→Nat):∀ l:List (List PE),PE.msLL op l=foldW op (foldW op (PE.ms op)) l
 | []=>rfl
 | x::l=>by simp only [PE.msLL,PE.msLL_eq op l,foldW,PE.msL_eq]
theorem PE.msO_eq (op:Nat→Nat→Nat):∀ l:List (PE × Bool),PE.msO op l=foldW op (fun x=>PE.ms op x.1) l
 | []=>rfl
 | x::l=>by
   obtain ⟨e,b⟩:=x
   simp only [PE.msO,PE.msO_eq op l,foldW,PE.ms1]
theorem PE.ms_eq (op:Nat→Nat→Nat) (x:PE):x.ms op=1+op (foldW op (PE.ms op) x.kids) (foldW op (PE.msP op) x.sub):=by
 cases x
 simp only [PE.ms,PE.msL_eq,PE.msS_eq,PE.kids,PE.sub]
theorem PE.msP_eq {op:Nat→Nat→Nat} (h:OpOk op) (p:PL):PE.msP op p=foldW op (PE.ms op) p.parts:=by
 obtain ⟨t,on,w,o,i,n,d,l⟩:=p
 simp only [PE.msP,PlanOf.parts,foldW_append h,foldW_flatten h,foldW_map,PE.msL_eq,PE.msLL_eq,PE.msO_eq]
theorem PL.parts_w (p:PL):sumW (fun k=>1+wgt k.v) p.parts≤wgt p.v:=by
 have e:=PL.wgt_eq p
 have e1:wgt (.sl 0 (p.wher.map PE.toV))=sumW (fun k=>1+wgt k.v) p.wher:=by rw [wgt_sl,sumW_one];simp only [PE.toV_eq]
 have e2:wgt (.sl 0 (p.items.map PE.toV))=sumW (fun k=>1+wgt k.v) p.items:=by rw [wgt_sl,sumW_one];simp only [PE.toV_eq]
 have e3:wgt (.sl 0 (p.order.map PE.sv))=sumW (fun k=>1+wgt k.v) (p.order.map (·.1)):=by
   rw [wgt_sl,sumW_one]
   simp only [PE.wgt_eqs,slW,sumW,List.length_map,List.map_map]
   rfl
 have e4:sumW (fun k=>1+wgt k.v) p.on.flatten≤wgt (.sl 0 (p.on.map PE.vS)):=by
   rw [wgt_sl]
   generalize p.on=on
   induction on with
   | nil=>simp [sumW]
   | cons x on ih =>
     have ex:wgt (PE.vS x)=sumW (fun k=>1+wgt k.v) x:=by unfold PE.vS;rw [wgt_sl,sumW_one];simp only [PE.toV_eq]
     rw [List.flatten_cons,sumW_app]
     simp only [slW,sumW,List.map_cons,List.sum_cons,List.length_cons] at *
     omega
 simp only [PlanOf.parts,sumW_app]
 omega
theorem sumW_len {α : Type} (f : α → Nat) (l:List α):l.length≤sumW (fun k=>1+f k) l:=by
 rw [sumW_one];exact len_slW f l
theorem PL.parts_len (p:PL):p.parts.length≤wgt p.v:=Nat.le_trans (sumW_len _ _) (PL.parts_w p)
theorem kids_w (l:List PE):sumW (fun k=>1+wgt k.v) l=wgt (.sl 0 (l.map PE.toV)):=by rw [wgt_sl,sumW_one];simp only [PE.toV_eq]
theorem sub_w (l:List PL):sumW (fun k=>wgt (PL.v k)) l≤wgt (.sl 0 (l.map PE.planV)):=by
 rw [wgt_sl]
 simp only [PE.planV_eq,slW]
 exact Nat.le_add_left _ _
theorem PE.ms_le {op:Nat→Nat→Nat} (h:OpOk op) (x:PE):x.ms op≤1+wgt x.v:=by
 induction x using PE.ind with
 | h e ih1 ih2 =>
   have e1:=PE.wgt_eq2 e
   have e2:=foldW_le h (PE.ms op) e.kids
   have e3:=sumW_mono (f:=PE.ms op) (g:=fun k=>1+wgt k.v) (l:=e.kids) ih1
   have e4:=foldW_le h (PE.msP op) e.sub
   have e5:=sumW_mono (f:=PE.msP op) (g:=fun p:PL=>wgt (PL.v p)) (l:=e.sub) fun p hp=>by
     rw [PE.msP_eq h]
     exact Nat.le_trans (foldW_le h _ _) (Nat.le_trans (sumW_mono (ih2 p hp)) (PL.parts_w p))
   have e6:=kids_w e.kids
   have e7:sumW (fun p:PL=>wgt (PL.v p)) e.sub≤_:=sub_w e.sub
   have e8:=h.le (foldW op (PE.ms op) e.kids) (foldW op (PE.msP op) e.sub)
   rw [PE.ms_eq]
   omega
theorem PL.ms_le {op:Nat→Nat→Nat} (h:OpOk op) (p:PL):PE.msP op p≤wgt p.v:=by
 rw [PE.msP_eq h]
 exact Nat.le_trans (foldW_le h _ _) (Nat.le_trans (sumW_mono fun k _=>PE.ms_le h k) (PL.parts_w p))
theorem PL.on_le (p:PL):p.on.length≤wgt p.v:=by
 have e:=PL.wgt_eq p
 have:=wgt_len PE.vS p.on
 omega
def MsC (P:Program) (g:FuncId) (op:Nat→Nat→Nat) (e:PE):Prop:=∀ s:S,VCalls P g [e.v] s (fun v s'=>v = .int .i64 (e.ms op:Nat)∧s'=s)
theorem PE.els (te:Ty) (h:∀ x:PE,elemsA te [PE.v x]=true) (l:List PE):Elems te (l.map PE.toV):=Elems.map fun x=>by rw [PE.toV_eq];exact h x
end Go.Proofs.Ytikghanejpigjaa

namespace Go.Proofs.Ytikghanejpigjaa
open Go
set_option linter.unusedSimpArgs false
set_option linter.unusedVariables false
def freeAt (u k up pos:Int):List Bind:=if k=2∧u≤up then [⟨up - u,pos,0⟩] else []
def varAt (_ k up pos:Int):List Bind:=if k=2 then [⟨up,pos,0⟩] else []
mutual
def PE.col (f:Int→Int→Int→Int→List Bind) (u:Int):PE→List Bind
 | .mk k _ _ _ up pos kids sub=>f u k up pos++(PE.colL f u kids++PE.colS f (u+1) sub)
def PE.colL (f:Int→Int→Int→Int→List Bind) (u:Int):List PE→List Bind
 | []=>[]
 | x::xs=>PE.col f u x++PE.colL f u xs
def PE.colS (f:Int→Int→Int→Int→List Bind) (u:Int):List (PlanOf PE)→List Bind
 | []=>[]
 | x::xs=>PE.colP f u x++PE.colS f u xs
def PE.colP (f:Int→Int→Int→Int→List Bind) (u:Int):PlanOf PE→List Bind
 | ⟨_,on,w,o,i,_,_,_⟩=>PE.colLL f u on++PE.colL f u w++PE.colO f u o++PE.colL f u i
def PE.colLL (f:Int→Int→Int→Int→List Bind) (u:Int):List (List PE)→List Bind
 | []=>[]
 | x::xs=>PE.colL f u x++PE.colLL f u xs
def PE.colO (f:Int→Int→Int→Int→List Bind) (u:Int):List (PE × Bool)→List Bind
 | []=>[]
 | x::xs=>PE.col1 f u x++PE.colO f u xs
def PE.col1 (f:Int→Int→Int→Int→List Bind) (u:Int):PE × Bool→List Bind
 |(e,_)=>PE.col f u e
end
section
variable (f:Int→Int→Int→Int→List Bind)
theorem PE.colL_eq (u:Int):∀ l:List PE,PE.colL f u l=l.flatMap (PE.col f u)
 | []=>rfl
 | x::l=>by simp only [PE.colL,PE.colL_eq u l,List.flatMap_cons]
theorem PE.colS_eq (u:Int):∀ l:List PL,PE.colS f u l=l.flatMap (PE.colP f u)
 | []=>rfl
 | x::l=>by simp only [PE.colS,PE.colS_eq u l,List.flatMap_cons]
theorem flatMap_len {α β : Type} (g : α → List β):∀ l:List α,(l.flatMap g).length=sumW (fun x=>(g x).length) l
 | []=>rfl
 | x::l=>by simp only [List.flatMap_cons,List.length_append,flatMap_len g l,sumW,List.map_cons,List.sum_cons]
end
theorem flatMap_take_len {α β : Type} (g : α → List β) (l:List α) (i:Nat):((l.take i).flatMap g).length≤(l.flatMap g).length:=by
 rw [flatMap_len,flatMap_len];exact sumW_take_le _ l i
theorem freeAt_len (u k up pos:Int):(freeAt u k up pos).length≤1:=by unfold freeAt;split <;> simp
theorem varAt_len (u k up pos:Int):(varAt u k up pos).length≤1:=by unfold varAt;split <;> simp
def binds (l:List Bind):V := .sl 0 (l.map Bind.toV)
theorem plain_binds (l:List Bind):(binds l).plain=true:=plain_BindS l
@[simp] theorem Bind.under (n:Nat) (b:Bind):V.under n b.toV=true:=rfl
@[simp] theorem Bind.underS (n:Nat) (l:List Bind):V.underL n (l.map Bind.toV)=true:=underL_dat (plainL_dat _ (plainL_of' (plain_BindS l)))
theorem underLA (n:Nat) (a b:List V):V.underL n (a++b)=(V.underL n a&&V.underL n b):=by
 rw [V.underL_eq,V.underL_eq,V.underL_eq,List.all_append]
def FreC (P:Program) (g:FuncId) (e:PE):Prop:=∀ (u:Int) (s:S),0≤u→u+wgt e.v≤3000000→VCalls P g [e.v,.int .i64 u] s (fun v t=>Own2 (binds (e.col freeAt u)) v t)
theorem FreC.pure {P:Program} {g:FuncId} {e:PE} (h:FreC P g e) (u:Int) (h0:0≤u) (h1:u+wgt e.v≤3000000) (s:S):VCalls P g [e.v,.int .i64 u] s (fun v s'=>v = .sl 0 ((e.col freeAt u).map Bind.toV)∧s'=s) :=
 VCalls.pureOf (plainL_cons (PE.plainv e) (plainL_cons rfl rfl)) (plain_BindS _) (fun t=>h u t h0 h1) s
end Go.Proofs.Ytikghanejpigjaa

namespace Go.Proofs.Ytikghanejpigjaa
open Go
set_option linter.unusedSimpArgs false
set_option linter.unusedVariables false
def AppC (P:Program) (g:FuncId) (A:V→List V) (sz:Nat) (us ws:List V):Prop :=
 ∀ (s:S) (H:List BE) (id:Nat),Hold s s.next (.acc id sz us us::H) →
   VCalls P g (A (.sl id us)) (s.ext []) (fun v t=>∃ s':S,v = .sl id ws∧t=s'.ext []∧Hold s' s'.next (.acc id sz ws ws::H))
section
variable {P:Program} {N:Nat} {ops:Array Oper} {l:List Oper} {K:Kn→S→Prop} {L:Kn} {s:S} {d:Nat} {ty:TypeId} {p:String} {a:Array Edge} {H H1:List BE}
theorem LOps.accH {f:Operand} {g:FuncId} {args:Array Operand} {B:Array TypeId} {A:V→List V} {sz id:Nat} {us ws:List V} (j:Nat) (hf:opd L f=some (.fn g [])) (hc:AppC P g A sz us ws) (ha:opdL L args.toList=some (A (.sl id us))) (hok:CallOk P g)
   (hh:Hold s s.next H) (hi:nthO H j=some (.acc id sz us us)) (he:eraO H j=some H1)
   (hk:∀ s':S,Hold s' s'.next (.acc id sz ws ws::H1)→LOps P N ops l K ((d,.sl id ws)::L) (s'.ext [])) :
   LOps P N ops (⟨some d,.call ⟨.value f,args,B⟩,ty,p,a,none⟩::l) K L (s.ext []):=by
 refine .call hf ha (appO_nil _) hok (hc s H1 id (hh.front hi he)) fun v s' hv=>?_
 obtain ⟨t,rfl,rfl,h3⟩:=hv
 exact hk t h3
end
def freeTop (e:PE) (u:Int):List Bind:=if 0≤u∧u≤1000000 then e.col freeAt u else []
end Go.Proofs.Ytikghanejpigjaa
