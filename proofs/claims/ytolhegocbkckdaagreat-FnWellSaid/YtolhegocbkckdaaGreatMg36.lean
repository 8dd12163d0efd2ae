/-
  The types of plans' trees and plans, in plain Lean.
  Slices of the caller's that a call appends to.
  Own work; no condition.
-/
import Derived.Test.YtolhegocbkckdaaGreatDPSize
import Derived.Test.YtolhegocbkckdaaGreatDTy
import Derived.Test.YtolhegocbkckdaaGreatMg27
import Derived.Test.YtolhegocbkckdaaGreatMg10
namespace Go.Proofs.YtolhegocbkckdaaGreat
open Go
set_option linter.unusedSimpArgs false
set_option linter.unusedVariables false
def qR (v:Val):Bool:=decide (v.kind=0)&&(decide (v.num=0)&&decide (v.text=[]))
def Q5 (v:Val):Bool:=v.ok&&((!decide (v.kind=1) || decide (0≤v.num))&&decide ((v.text.length:Int)≤40))
def nameOk (s:List UInt8):Bool:=decide (1≤(s.length:Int))&&decide ((s.length:Int)≤20)
def qU (k op:Int) (v:Val) (nk ns:Nat):Prop :=
 (k=1∧Q5 v=true∧nk=0∧ns=0)∨(k=2∧nk=0∧ns=0)∨(k=3∧(op=15∨op=16)∧nk=1∧ns=0)∨(k=4∧1≤op∧op≤14∧nk=2∧ns=0)∨(k=5∧nk=1∧ns=0)∨(k=6∧nk=3∧ns=0) ∨
 (k=7∧2≤nk∧nk≤9∧ns=0)∨(k=8∧nk=1∧ns=1)∨(k=9∧nk=0∧ns=1)
instance (k op:Int) (v:Val) (nk ns:Nat):Decidable (qU k op v nk ns):=by unfold qU;infer_instance
def ZU (k op:Int) (nt:Bool) (v:Val) (up pos:Int) (nk ns:Nat):Prop :=
 (k=2∨(up=0∧pos=0))∧(k=1∨qR v=true)∧(k=3∨k=4∨op=0)∧(nt=false∨(5≤k∧k≤8))∧qU k op v nk ns
instance (k op:Int) (nt:Bool) (v:Val) (up pos:Int) (nk ns:Nat):Decidable (ZU k op nt v up pos nk ns):=by unfold ZU;infer_instance
def PE.shape (e:PE):Bool:=decide (ZU e.kind e.op e.nt e.value e.up e.pos e.kids.length e.sub.length)
def Js (r:Int × Bool):Option Int:=if r.2 then some r.1 else none
def eU (o:Option Int):V:=bP (match o with | some t=>(t,true) | none=>(0,false))
def vW:Int→List Int→Option Int
 | t,[]=>some t
 | t,x::xs=>match fK t x with
   |(u,true)=>vW u xs
   |(_,false)=>none
def gN (env:List (List Int)) (up pos:Int):Option Int:=if 0≤up∧0≤pos then (env[up.toNat]?).bind fun r=>r[pos.toNat]? else none
def resT (env:List (List Int)) (k op:Int) (v:Val) (up pos:Int) (ks:List Int) (ss:List (List Int)):Option Int :=
 if k=1 then some v.kind else if k=2 then gN env up pos else if k=3 then Js (Qd op (ks.headD 0)) else if k=4 then Js (bH op (ks.headD 0) ((ks.drop 1).headD 0)) else if k=5 then some 3 else
 if k=9 then some 3 else if k=8 then (if (ss.headD []).length=1 then (vW 0 (ks++ss.headD [])).map fun _=>3 else none) else (vW 0 ks).map fun _=>3
def PL.form (p:PL):Bool:=decide (1≤p.tables.length∧p.tables.length≤3∧p.on.length=p.tables.length∧(p.on.headD []).length=0∧p.xO.length≤1∧p.order.length≤12∧1≤p.items.length∧p.items.length≤12∧p.names.length=p.items.length ∧ -1≤p.limit) &&
 (p.on.all (fun l=>decide (l.length≤1))&&p.names.all nameOk)
def PL.ok (c:jy) (p:PL):Bool:=p.form&&p.tables.all (wB c)
mutual
def PE.ty (c:jy) (env:List (List Int)):PE→Option Int
 | .mk k op nt v up pos kids sub=>if PE.shape (.mk k op nt v up pos kids sub)=true then (match PE.fE c env kids with
   | none=>none
   | some ks=>match PE.X9 c env sub with
     | none=>none
     | some ss=>resT env k op v up pos ks ss) else none
def PE.fE (c:jy) (env:List (List Int)):List PE→Option (List Int)
 | []=>some []
 | x::xs=>match PE.ty c env x with
   | none=>none
   | some t=>match PE.fE c env xs with
     | none=>none
     | some ts=>some (t::ts)
def PE.X9 (c:jy) (env:List (List Int)):List (qZ PE)→Option (List (List Int))
 | []=>some []
 | x::xs=>match PE.ZA c env x with
   | none=>none
   | some t=>match PE.X9 c env xs with
     | none=>none
     | some ts=>some (t::ts)
def PE.ZA (c:jy) (env:List (List Int)):qZ PE→Option (List Int)
 | ⟨t,on,w,o,i,n,d,l⟩=>if PL.ok c ⟨t,on,w,o,i,n,d,l⟩=true then (if PE.oh c env t 1 on=true then (if PE.Jt c (rowsOf c t::env) w=true then (if PE.Y8 c (rowsOf c t::env) o=true then PE.fE c (rowsOf c t::env) i else none) else none) else none) else none
def PE.oh (c:jy) (env:List (List Int)) (t:List Int):Nat→List (List PE)→Bool
 | _,[]=>true
 | j,x::xs=>PE.Jt c (rowsOf c (t.take j)::env) x&&PE.oh c env t (j+1) xs
def PE.Jt (c:jy) (env:List (List Int)):List PE→Bool
 | []=>true
 | x::xs=>(match PE.ty c env x with
   | some t=>Q0 t
   | none=>false)&&PE.Jt c env xs
def PE.Y8 (c:jy) (env:List (List Int)):List (PE × Bool)→Bool
 | []=>true
 | x::xs=>PE.Fx c env x&&PE.Y8 c env xs
def PE.Fx (c:jy) (env:List (List Int)):PE × Bool→Bool
 |(e,_)=>(PE.ty c env e).isSome
end
section
variable (c:jy) (env:List (List Int))
theorem PE.Ai (e:PE):e.ty c env=if e.shape=true then (match PE.fE c env e.kids with
   | none=>none
   | some ks=>match PE.X9 c env e.sub with
     | none=>none
     | some ss=>resT env e.kind e.op e.value e.up e.pos ks ss) else none:=by
 cases e
 simp only [PE.ty,PE.kids,PE.sub,PE.kind,PE.op,PE.value,PE.up,PE.pos]
theorem PE.Kz (p:PL):PE.ZA c env p=if PL.ok c p=true then (if PE.oh c env p.tables 1 p.on=true then (if PE.Jt c (rowsOf c p.tables::env) p.xO=true then (if PE.Y8 c (rowsOf c p.tables::env) p.order=true then PE.fE c (rowsOf c p.tables::env) p.items else none) else none) else none) else none:=by
 cases p
 simp only [PE.ZA]
theorem PE.iE:∀ {l:List PE} {ts:List Int},PE.fE c env l=some ts→ts.length=l.length
 | [],ts,h=>by simp only [PE.fE] at h;cases h;rfl
 | x::l,ts,h=>by
   simp only [PE.fE] at h
   split at h
   · cases h
   · split at h
     · cases h
     · rename_i h2
       cases h
       simp [PE.iE h2]
theorem PE.ZB:∀ (l:List PE) (x:PE),PE.fE c env (l++[x])=match PE.fE c env l with
   | none=>none
   | some ts=>match PE.ty c env x with
     | none=>none
     | some t=>some (ts++[t])
 | [],x=>by
   simp only [List.nil_append,PE.fE]
   try (cases PE.ty c env x <;> rfl)
 | y::l,x=>by
   simp only [List.cons_append,PE.fE,PE.ZB l x]
   cases PE.ty c env y with
   | none=>rfl
   | some t =>
     cases PE.fE c env l with
     | none=>rfl
     | some ts=>cases PE.ty c env x <;> rfl
theorem PE.Qg {l:List PE} {i:Nat} (hi:i<l.length) (h:PE.fE c env (l.take (i+1))=none):PE.fE c env l=none:=by
 have key:∀ (a b:List PE),PE.fE c env a=none→PE.fE c env (a++b)=none:=fun a b=>by
   induction a with
   | nil=>intro h;simp only [PE.fE] at h;cases h
   | cons x a ih =>
     intro h
     simp only [PE.fE,List.cons_append] at h ⊢
     cases hx:PE.ty c env x with
     | none=>rfl
     | some t =>
       rw [hx] at h
       cases ha:PE.fE c env a with
       | none=>rw [ih ha]
       | some ts=>rw [ha] at h;cases h
 have:=key _ (l.drop (i+1)) h
 rwa [List.take_append_drop] at this
theorem PE.WS:∀ (l:List PE),PE.Jt c env l=l.all fun x=>match PE.ty c env x with
   | some t=>Q0 t
   | none=>false
 | []=>rfl
 | x::l=>by simp only [PE.Jt,List.all_cons,PE.WS l]
theorem PE.W9:∀ (l:List (PE × Bool)),PE.Y8 c env l=l.all fun x=>(PE.ty c env x.1).isSome
 | []=>rfl
 | x::l=>by
   obtain ⟨e,b⟩:=x
   simp only [PE.Y8,List.all_cons,PE.W9 l,PE.Fx]
end
end Go.Proofs.YtolhegocbkckdaaGreat

namespace Go.Proofs.YtolhegocbkckdaaGreat
open Go
theorem VCalls.PK {P:Program} {f:FuncId} {pre:List V} {s:S} {R:V→S→Prop} (sz:Nat) (h:VCalls P f (pre++[.sl s.next []]) (s.kL 0 sz) R):VCalls P f (pre++[.jo]) s R:=by
 intro E vals h1 h2
 obtain ⟨st,r⟩:=y8 h1 sz
 obtain ⟨a,b,rfl,ha,hb⟩:=ql.split h2
 have hb':ql { E with fam:=fun x=>if x=s.next then some ⟨0,none,0,sz⟩ else E.fam x } [.sl s.next []] b:=by
   cases hb with
   | cons k1 k2 =>
     cases k2
     refine .cons ?_ .nil
     cases k1
     exact .iy (.inr ⟨⟨0,none,0,sz⟩,by simp,fun _=>rfl⟩)
 refine (h _ (a++b) r ((ha.xQ st.ev).append hb')).mono fun e w' ⟨E1,v,val,s',x1,x2,x3,k,r',st'⟩=>?_
 exact ⟨E1,v,val,s',x1,x2,x3,k,r',st.trans st'⟩
@[simp] theorem Qh (t:S) (id a b c d:Nat):(t.xX id a b).xX id c d=t.xX id c d:=by
 refine S.ext_eq (fun _=>rfl) (fun x=>?_) rfl
 simp only [S.xX]
 by_cases h:x=id <;> simp [h]
theorem Qi {t:S} {id:Nat} (h:id<t.next) (xs:List Own) (n sz:Nat):(t.ext xs).xX id n sz=(t.xX id n sz).ext xs:=by
 refine S.ext_eq (fun _=>rfl) (fun x=>?_) rfl
 simp only [S.xX,S.ext]
 by_cases h1:x=id
 · simp [h1,h]
 · simp [h1]
@[simp] theorem Dn (t:S) (id n sz:Nat):(t.xX id n sz).next=t.next:=rfl
@[simp] theorem Dp (t:S) (id n sz l:Nat):(t.xX id n sz).vars l=t.vars l:=rfl
section
variable {P:Program} {N:Nat} {ops:Array Oper} {l:List Oper} {K:Kn→S→Prop} {L:Kn} {t:S} {xs:List Own} {tt:BT} {d:Nat} {ty:TypeId} {p:String} {a:Array Edge}
theorem zq.Z4 (ht:tt.ok P) {T U e:TypeId} {u te:Ty} {x y:Operand} {id n sz:Nat} {us vs:List V} {w:V} (hx:jf L x=some (.sl id us)) (hlt:id<t.next) (hy:jf L y=some w) (hw:iW w=some vs)
   (hT:tt.get T=some u) (hkd:u.kd = .slice e) (hte:tt.get e=some te) (hz:(Nat.beq te.zero.length te.size&&Nat.blt 0 te.size)=true) (hm:Nat.beq sz te.size=true) (hU:Nat.beq U T=true) (hn:n=us.length) (hall:zS te vs) (hb:xU (us.length+vs.length) te.bytes)
   (hk:zq P N ops l K ((d,.sl id (us++vs))::L) ((t.xX id (us.length+vs.length) sz).ext xs)):zq P N ops (⟨some d,jQ x y #[T,U],ty,p,a,none⟩::l) K L ((t.xX id n sz).ext xs):=by
 simp only [Bool.and_eq_true] at hz
 have Vv:=Nat.eq_of_beq_eq_true hU
 subst Vv
 subst hn
 have hm':=Nat.eq_of_beq_eq_true hm
 subst hm'
 refine .st (fun σ hσ => ?_) hk
 have hf:((t.xX id us.length te.size).ext xs).xJ id=some (us.length,te.size):=by rw [wo _ _ (by simpa using hlt)];simp [S.xX]
 simp only [jQ,vU,uh,qd hσ hx,qd hσ hy,j3,y7,ht.get hT,hkd,ht.get hte,yN hw,Option.bind_some,Option.map_some,if_true]
 rw [if_pos ⟨Nat.eq_of_beq_eq_true hz.1,by simpa using hz.2,hall⟩,hf]
 simp only [Option.bind_some]
 rw [if_pos ⟨trivial,trivial,hb.1,hb.2⟩,Qi (by simpa using hlt),Qh]
end
theorem Own2.LQ {α : Type} {f : α → V} {cs:List α} {t:S} {id AY:Nat} (sz:Nat) (hk:t.xJ id=some (cs.length,AY)) (h1:∀ x,(f x).cells.length=sz) (h2:∀ x,(f x).cells.all V.qP=true):Own2 (.sl 0 (cs.map f)) (.sl id (cs.map f)) t:=by
 cases cs with
 | nil=>exact ⟨[],.emp,List.nodup_nil⟩
 | cons c cs =>
   refine ⟨[]++[(false,id)],.sl (sz:=AY) (sz':=sz) rfl rfl (QW h1 (c::cs)) (by rw [hk,List.length_map]) (eO.qP ?_),by simp⟩
   rw [List.all_eq_true]
   intro v hv
   simp only [V.flat,List.mem_flatMap,List.mem_map] at hv
   obtain ⟨_,⟨x,_,rfl⟩,hv⟩:=hv
   exact List.all_eq_true.1 (h2 x) v hv
theorem Own2.EC {α : Type} {f : α → V} {cs:List α} {s:S} {xs:List Own} {k:Nat} (sz:Nat) {n AY:Nat} (hk:kK xs k=some (.fam n AY)) (hn:n=cs.length) (h1:∀ x,(f x).cells.length=sz) (h2:∀ x,(f x).cells.all V.qP=true):Own2 (.sl 0 (cs.map f)) (.sl (s.next+k) (cs.map f)) (s.ext xs):=by
 subst hn
 exact Own2.LQ sz (by rw [nQ,kF hk];rfl) h1 h2
end Go.Proofs.YtolhegocbkckdaaGreat
