/-
  References that lead out of a plan's tree, and all references of plans, of the program and of the reference. Printed by a program of our own; no condition.
  Lifting of a plan's tree, plainly; maps over the parts of plans.
  Own work; no condition.
-/
import Derived.Test.YtolhegocbkckdaaMg16
import Derived.Test.YtolhegocbkckdaaDPSize
namespace Go.Proofs.Ytolhegocbkckdaa
open Go
set_option linter.unusedSimpArgs false
set_option linter.unusedVariables false
def freeAt (u k up pos:Int):List Bind:=if k=2∧u≤up then [⟨up - u,pos,0⟩] else []
def varAt (_ k up pos:Int):List Bind:=if k=2 then [⟨up,pos,0⟩] else []
mutual
def PE.col (f:Int→Int→Int→Int→List Bind) (u:Int):PE→List Bind
 | .mk k _ _ _ up pos kids sub=>f u k up pos++(PE.colL f u kids++PE.colS f (u+1) sub)
def PE.colL (f:Int→Int→Int→Int→List Bind) (u:Int):List PE→List Bind
 | []=>[]
 | x::xs=>PE.col f u x++PE.colL f u xs
def PE.colS (f:Int→Int→Int→Int→List Bind) (u:Int):List (PlanOf PE)→List Bind
 | []=>[]
 | x::xs=>PE.colP f u x++PE.colS f u xs
def PE.colP (f:Int→Int→Int→Int→List Bind) (u:Int):PlanOf PE→List Bind
 | ⟨_,on,w,o,i,_,_,_⟩=>PE.colLL f u on++PE.colL f u w++PE.colO f u o++PE.colL f u i
def PE.colLL (f:Int→Int→Int→Int→List Bind) (u:Int):List (List PE)→List Bind
 | []=>[]
 | x::xs=>PE.colL f u x++PE.colLL f u xs
def PE.colO (f:Int→Int→Int→Int→List Bind) (u:Int):List (PE × Bool)→List Bind
 | []=>[]
 | x::xs=>PE.col1 f u x++PE.colO f u xs
def PE.col1 (f:Int→Int→Int→Int→List Bind) (u:Int):PE × Bool→List Bind
 |(e,_)=>PE.col f u e
end
section
variable (f:Int→Int→Int→Int→List Bind)
theorem PE.colL_eq (u:Int):∀ l:List PE,PE.colL f u l=l.flatMap (PE.col f u)
 | []=>rfl
 | x::l=>by simp only [PE.colL,PE.colL_eq u l,List.flatMap_cons]
theorem PE.colS_eq (u:Int):∀ l:List PL,PE.colS f u l=l.flatMap (PE.colP f u)
 | []=>rfl
 | x::l=>by simp only [PE.colS,PE.colS_eq u l,List.flatMap_cons]
theorem PE.colLL_eq (u:Int):∀ l:List (List PE),PE.colLL f u l=l.flatten.flatMap (PE.col f u)
 | []=>rfl
 | x::l=>by simp only [PE.colLL,PE.colLL_eq u l,List.flatten_cons,List.flatMap_append,PE.colL_eq]
theorem PE.colO_eq (u:Int):∀ l:List (PE × Bool),PE.colO f u l=(l.map (·.1)).flatMap (PE.col f u)
 | []=>rfl
 | x::l=>by
   obtain ⟨e,b⟩:=x
   simp only [PE.colO,PE.colO_eq u l,List.map_cons,List.flatMap_cons,PE.col1]
theorem PE.col_eq (u:Int) (x:PE):x.col f u=f u x.kind x.up x.pos++(x.kids.flatMap (PE.col f u)++x.sub.flatMap (PE.colP f (u+1))):=by
 cases x
 simp only [PE.col,PE.colL_eq,PE.colS_eq,PE.kids,PE.sub,PE.kind,PE.up,PE.pos]
theorem PE.colP_eq (u:Int) (p:PL):PE.colP f u p=p.parts.flatMap (PE.col f u):=by
 obtain ⟨t,on,w,o,i,n,d,l⟩:=p
 simp only [PE.colP,PlanOf.parts,List.flatMap_append,PE.colL_eq,PE.colLL_eq,PE.colO_eq]
theorem flatMap_len {α β : Type} (g : α → List β):∀ l:List α,(l.flatMap g).length=sumW (fun x=>(g x).length) l
 | []=>rfl
 | x::l=>by simp only [List.flatMap_cons,List.length_append,flatMap_len g l,sumW,List.map_cons,List.sum_cons]
theorem PE.col_len (hf:∀ u k up pos,(f u k up pos).length≤1) (x:PE):∀ u,(x.col f u).length≤1+wgt x.v:=by
 induction x using PE.ind with
 | h e ih1 ih2 =>
   intro u
   have e1:=PE.wgt_eq2 e
   have e2:=kids_w e.kids
   have e3:sumW (fun p:PL=>wgt (PL.v p)) e.sub≤_:=sub_w e.sub
   have e4:=sumW_mono (f:=fun k=>(PE.col f u k).length) (g:=fun k=>1+wgt k.v) (l:=e.kids) fun k hk=>ih1 k hk u
   have e5:=sumW_mono (f:=fun p=>(PE.colP f (u+1) p).length) (g:=fun p:PL=>wgt (PL.v p)) (l:=e.sub) fun p hp=>by
     rw [PE.colP_eq,flatMap_len]
     exact Nat.le_trans (sumW_mono fun k hk=>ih2 p hp k hk (u+1)) (PL.parts_w p)
   have e6:=hf u e.kind e.up e.pos
   rw [PE.col_eq,List.length_append,List.length_append,flatMap_len,flatMap_len]
   omega
theorem PL.col_len (hf:∀ u k up pos,(f u k up pos).length≤1) (p:PL) (u:Int):(PE.colP f u p).length≤wgt p.v:=by
 rw [PE.colP_eq,flatMap_len]
 exact Nat.le_trans (sumW_mono fun k _=>PE.col_len f hf k u) (PL.parts_w p)
end
theorem flatMap_take_len {α β : Type} (g : α → List β) (l:List α) (i:Nat):((l.take i).flatMap g).length≤(l.flatMap g).length:=by
 rw [flatMap_len,flatMap_len];exact sumW_take_le _ l i
theorem freeAt_len (u k up pos:Int):(freeAt u k up pos).length≤1:=by unfold freeAt;split <;> simp
theorem varAt_len (u k up pos:Int):(varAt u k up pos).length≤1:=by unfold varAt;split <;> simp
def binds (l:List Bind):V := .sl 0 (l.map Bind.toV)
theorem plain_binds (l:List Bind):(binds l).plain=true:=plain_BindS l
@[simp] theorem Bind.under (n:Nat) (b:Bind):V.under n b.toV=true:=rfl
@[simp] theorem Bind.underS (n:Nat) (l:List Bind):V.underL n (l.map Bind.toV)=true:=underL_dat (plainL_dat _ (plainL_of' (plain_BindS l)))
theorem underLA (n:Nat) (a b:List V):V.underL n (a++b)=(V.underL n a&&V.underL n b):=by
 rw [V.underL_eq,V.underL_eq,V.underL_eq,List.all_append]
def FreC (P:Program) (g:FuncId) (e:PE):Prop:=∀ (u:Int) (s:S),0≤u→u+wgt e.v≤3000000→VCalls P g [e.v,.int .i64 u] s (fun v t=>Own2 (binds (e.col freeAt u)) v t)
end Go.Proofs.Ytolhegocbkckdaa

namespace Go.Proofs.Ytolhegocbkckdaa
open Go
set_option linter.unusedSimpArgs false
set_option linter.unusedVariables false
def PL.map (g:PE→PE) (p:PL):PL:=⟨p.tables,p.on.map (List.map g),p.wher.map g,p.order.map (fun x=>(g x.1,x.2)),p.items.map g,p.names,p.distinct,p.limit⟩
def upBy (b u k up:Int):Int:=if k=2∧u≤up then up+b else up
mutual
def PE.lf (b u:Int):PE→PE
 | .mk k op nt value up pos kids sub => .mk k op nt value (upBy b u k up) pos (PE.lfL b u kids) (PE.lfS b (u+1) sub)
def PE.lfL (b u:Int):List PE→List PE
 | []=>[]
 | x::xs=>PE.lf b u x::PE.lfL b u xs
def PE.lfS (b u:Int):List (PlanOf PE)→List (PlanOf PE)
 | []=>[]
 | x::xs=>PE.lfP b u x::PE.lfS b u xs
def PE.lfP (b u:Int):PlanOf PE→PlanOf PE
 | ⟨t,on,w,o,i,n,d,l⟩=>⟨t,PE.lfLL b u on,PE.lfL b u w,PE.lfO b u o,PE.lfL b u i,n,d,l⟩
def PE.lfLL (b u:Int):List (List PE)→List (List PE)
 | []=>[]
 | x::xs=>PE.lfL b u x::PE.lfLL b u xs
def PE.lfO (b u:Int):List (PE × Bool)→List (PE × Bool)
 | []=>[]
 | x::xs=>PE.lf1 b u x::PE.lfO b u xs
def PE.lf1 (b u:Int):PE × Bool→PE × Bool
 |(e,d)=>(PE.lf b u e,d)
end
theorem PE.lfL_eq (b u:Int):∀ l:List PE,PE.lfL b u l=l.map (PE.lf b u)
 | []=>rfl
 | x::l=>by simp only [PE.lfL,PE.lfL_eq b u l,List.map_cons]
theorem PE.lfS_eq (b u:Int):∀ l:List PL,PE.lfS b u l=l.map (PE.lfP b u)
 | []=>rfl
 | x::l=>by simp only [PE.lfS,PE.lfS_eq b u l,List.map_cons]
theorem PE.lfLL_eq (b u:Int):∀ l:List (List PE),PE.lfLL b u l=l.map (List.map (PE.lf b u))
 | []=>rfl
 | x::l=>by simp only [PE.lfLL,PE.lfLL_eq b u l,List.map_cons,PE.lfL_eq]
theorem PE.lfO_eq (b u:Int):∀ l:List (PE × Bool),PE.lfO b u l=l.map (fun x=>(PE.lf b u x.1,x.2))
 | []=>rfl
 | x::l=>by
   obtain ⟨e,d⟩:=x
   simp only [PE.lfO,PE.lfO_eq b u l,List.map_cons,PE.lf1]
theorem PE.lfP_eq (b u:Int) (p:PL):PE.lfP b u p=PL.map (PE.lf b u) p:=by
 obtain ⟨t,on,w,o,i,n,d,l⟩:=p
 simp only [PE.lfP,PL.map,PE.lfL_eq,PE.lfLL_eq,PE.lfO_eq]
theorem PE.lfP_fun (b u:Int):PE.lfP b u=PL.map (PE.lf b u):=funext (PE.lfP_eq b u)
theorem PE.lf_eq (b u:Int) (x:PE):x.lf b u = .mk x.kind x.op x.nt x.value (upBy b u x.kind x.up) x.pos (x.kids.map (PE.lf b u)) (x.sub.map (PL.map (PE.lf b (u+1)))):=by
 cases x
 simp only [PE.lf,PE.lfL_eq,PE.lfS_eq,PE.kids,PE.sub,PE.kind,PE.op,PE.nt,PE.value,PE.up,PE.pos]
 simp only [PE.lfP_fun]
theorem PL.map_parts (g:PE→PE) (p:PL):(PL.map g p).parts=p.parts.map g:=by
 obtain ⟨t,on,w,o,i,n,d,l⟩:=p
 simp only [PL.map,PlanOf.parts,List.map_append,List.map_map,List.map_flatten]
 rfl
theorem wgt_slm {α : Type} {f : α → V} {g : α → α} (l:List α) (h:∀ x∈l,wgt (f (g x))=wgt (f x)):wgt (.sl 0 ((l.map g).map f))=wgt (.sl 0 (l.map f)):=by
 induction l with
 | nil=>rfl
 | cons x l ih =>
   have h1:=h x (by simp)
   have h2:=ih fun y hy=>h y (by simp [hy])
   simp only [List.map_cons,wgt,wgtL,List.length_cons,List.length_map] at *
   omega
theorem PL.map_wgt (g:PE→PE) (p:PL) (h:∀ k∈p.parts,wgt (g k).v=wgt k.v):wgt (PL.map g p).v=wgt p.v:=by
 have a1:wgt (.sl 0 ((p.on.map (List.map g)).map PE.vS))=wgt (.sl 0 (p.on.map PE.vS)):=wgt_slm p.on fun l hl=>wgt_slm l fun x hx=>by rw [PE.toV_eq,PE.toV_eq];exact h x (PlanOf.mem_on hl hx)
 have a2:wgt (.sl 0 ((p.wher.map g).map PE.toV))=wgt (.sl 0 (p.wher.map PE.toV)):=wgt_slm p.wher fun x hx=>by rw [PE.toV_eq,PE.toV_eq];exact h x (PlanOf.mem_wher hx)
 have a3:wgt (.sl 0 ((p.order.map (fun x=>(g x.1,x.2))).map PE.sv))=wgt (.sl 0 (p.order.map PE.sv)):=wgt_slm (g:=fun x=>(g x.1,x.2)) p.order fun x hx=>by rw [PE.wgt_eqs,PE.wgt_eqs];exact h x.1 (PlanOf.mem_order hx)
 have a4:wgt (.sl 0 ((p.items.map g).map PE.toV))=wgt (.sl 0 (p.items.map PE.toV)):=wgt_slm p.items fun x hx=>by rw [PE.toV_eq,PE.toV_eq];exact h x (PlanOf.mem_items hx)
 rw [PL.wgt_eq,PL.wgt_eq]
 simp only [PL.map] at *
 omega
theorem PE.lf_wgt (b:Int) (x:PE):∀ u,wgt (x.lf b u).v=wgt x.v:=by
 induction x using PE.ind with
 | h e ih1 ih2 =>
   intro u
   have a1:wgt (.sl 0 ((e.kids.map (PE.lf b u)).map PE.toV))=wgt (.sl 0 (e.kids.map PE.toV)):=wgt_slm e.kids fun x hx=>by rw [PE.toV_eq,PE.toV_eq];exact ih1 x hx u
   have a2:wgt (.sl 0 ((e.sub.map (PL.map (PE.lf b (u+1)))).map PE.planV))=wgt (.sl 0 (e.sub.map PE.planV)):=wgt_slm e.sub fun p hp=>by rw [PE.planV_eq,PE.planV_eq];exact PL.map_wgt _ p fun k hk=>ih2 p hp k hk (u+1)
   have a3:=PE.wgt_eq e
   have a4:wgt (e.lf b u).v=e.value.text.length+wgt (.sl 0 ((e.kids.map (PE.lf b u)).map PE.toV))+wgt (.sl 0 ((e.sub.map (PL.map (PE.lf b (u+1)))).map PE.planV)):=by
     rw [PE.lf_eq]
     exact PE.wgt_eq _
   omega
def upOk (k:Int):Bool:=decide (0≤k)&&decide (k≤1000)
mutual
def PE.ups:PE→Bool
 | .mk _ _ _ _ up _ kids sub=>upOk up&&(PE.upsL kids&&PE.upsS sub)
def PE.upsL:List PE→Bool
 | []=>true
 | x::xs=>PE.ups x&&PE.upsL xs
def PE.upsS:List (PlanOf PE)→Bool
 | []=>true
 | x::xs=>PE.upsP x&&PE.upsS xs
def PE.upsP:PlanOf PE→Bool
 | ⟨_,on,w,o,i,_,_,_⟩=>PE.upsLL on&&PE.upsL w&&PE.upsO o&&PE.upsL i
def PE.upsLL:List (List PE)→Bool
 | []=>true
 | x::xs=>PE.upsL x&&PE.upsLL xs
def PE.upsO:List (PE × Bool)→Bool
 | []=>true
 | x::xs=>PE.ups1 x&&PE.upsO xs
def PE.ups1:PE × Bool→Bool
 |(e,_)=>PE.ups e
end
theorem PE.upsL_eq:∀ l:List PE,PE.upsL l=l.all PE.ups
 | []=>rfl
 | x::l=>by simp only [PE.upsL,PE.upsL_eq l,List.all_cons]
theorem PE.upsS_eq:∀ l:List PL,PE.upsS l=l.all PE.upsP
 | []=>rfl
 | x::l=>by simp only [PE.upsS,PE.upsS_eq l,List.all_cons]
theorem PE.upsLL_eq:∀ l:List (List PE),PE.upsLL l=l.flatten.all PE.ups
 | []=>rfl
 | x::l=>by simp only [PE.upsLL,PE.upsLL_eq l,List.flatten_cons,List.all_append,PE.upsL_eq]
theorem PE.upsO_eq:∀ l:List (PE × Bool),PE.upsO l=(l.map (·.1)).all PE.ups
 | []=>rfl
 | x::l=>by
   obtain ⟨e,b⟩:=x
   simp only [PE.upsO,PE.upsO_eq l,List.map_cons,List.all_cons,PE.ups1]
theorem PE.upsP_eq (p:PL):PE.upsP p=p.parts.all PE.ups:=by
 obtain ⟨t,on,w,o,i,n,d,l⟩:=p
 simp only [PE.upsP,PlanOf.parts,List.all_append,PE.upsL_eq,PE.upsLL_eq,PE.upsO_eq]
theorem PE.upsP_fun:PE.upsP=fun p:PL=>p.parts.all PE.ups:=funext PE.upsP_eq
theorem PE.ups_eq (x:PE):x.ups=(upOk x.up&&(x.kids.all PE.ups&&x.sub.all (fun p=>p.parts.all PE.ups))):=by
 cases x
 simp only [PE.ups,PE.upsL_eq,PE.upsS_eq,PE.kids,PE.sub,PE.up]
 simp only [PE.upsP_fun]
def liftB (e:PE) (b:Int):Bool:=(decide (0≤b)&&decide (b≤1000))&&e.ups
def liftTop (e:PE) (b:Int):PE:=if liftB e b then e.lf b 0 else e
end Go.Proofs.Ytolhegocbkckdaa
