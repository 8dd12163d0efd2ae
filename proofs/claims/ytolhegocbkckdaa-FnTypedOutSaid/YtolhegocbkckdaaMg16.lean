/-
  The types of plans' trees and plans, in plain Lean.
  A slice compared with nil: of an empty one it cannot be told which it is.
  Slices of the caller's that a call appends to.
  Own work; no condition.
-/
import Derived.Test.YtolhegocbkckdaaDPSize
import Derived.Test.YtolhegocbkckdaaDTy
import Derived.Test.YtolhegocbkckdaaMg15
import Derived.Test.YtolhegocbkckdaaMg10
namespace Go.Proofs.Ytolhegocbkckdaa
open Go
set_option linter.unusedSimpArgs false
set_option linter.unusedVariables false
def val0 (v:Val):Bool:=decide (v.kind=0)&&(decide (v.num=0)&&decide (v.text=[]))
def litOk (v:Val):Bool:=v.ok&&((!decide (v.kind=1) || decide (0≤v.num))&&decide ((v.text.length:Int)≤40))
def nameOk (s:List UInt8):Bool:=decide (1≤(s.length:Int))&&decide ((s.length:Int)≤20)
def KindOk (k op:Int) (v:Val) (nk ns:Nat):Prop :=
 (k=1∧litOk v=true∧nk=0∧ns=0)∨(k=2∧nk=0∧ns=0)∨(k=3∧(op=15∨op=16)∧nk=1∧ns=0)∨(k=4∧1≤op∧op≤14∧nk=2∧ns=0)∨(k=5∧nk=1∧ns=0)∨(k=6∧nk=3∧ns=0) ∨
 (k=7∧2≤nk∧nk≤9∧ns=0)∨(k=8∧nk=1∧ns=1)∨(k=9∧nk=0∧ns=1)
instance (k op:Int) (v:Val) (nk ns:Nat):Decidable (KindOk k op v nk ns):=by unfold KindOk;infer_instance
def ShapeP (k op:Int) (nt:Bool) (v:Val) (up pos:Int) (nk ns:Nat):Prop :=
 (k=2∨(up=0∧pos=0))∧(k=1∨val0 v=true)∧(k=3∨k=4∨op=0)∧(nt=false∨(5≤k∧k≤8))∧KindOk k op v nk ns
instance (k op:Int) (nt:Bool) (v:Val) (up pos:Int) (nk ns:Nat):Decidable (ShapeP k op nt v up pos nk ns):=by unfold ShapeP;infer_instance
def PE.shape (e:PE):Bool:=decide (ShapeP e.kind e.op e.nt e.value e.up e.pos e.kids.length e.sub.length)
def optT (r:Int × Bool):Option Int:=if r.2 then some r.1 else none
def optV (o:Option Int):V:=tyV (match o with | some t=>(t,true) | none=>(0,false))
def meetL:Int→List Int→Option Int
 | t,[]=>some t
 | t,x::xs=>match meetT t x with
   |(u,true)=>meetL u xs
   |(_,false)=>none
def colTy (env:List (List Int)) (up pos:Int):Option Int:=if 0≤up∧0≤pos then (env[up.toNat]?).bind fun r=>r[pos.toNat]? else none
def resT (env:List (List Int)) (k op:Int) (v:Val) (up pos:Int) (ks:List Int) (ss:List (List Int)):Option Int :=
 if k=1 then some v.kind else if k=2 then colTy env up pos else if k=3 then optT (unT2 op (ks.headD 0)) else if k=4 then optT (binT op (ks.headD 0) ((ks.drop 1).headD 0)) else if k=5 then some 3 else
 if k=9 then some 3 else if k=8 then (if (ss.headD []).length=1 then (meetL 0 (ks++ss.headD [])).map fun _=>3 else none) else (meetL 0 ks).map fun _=>3
def PL.form (p:PL):Bool:=decide (1≤p.tables.length∧p.tables.length≤3∧p.on.length=p.tables.length∧(p.on.headD []).length=0∧p.wher.length≤1∧p.order.length≤12∧1≤p.items.length∧p.items.length≤12∧p.names.length=p.items.length ∧ -1≤p.limit) &&
 (p.on.all (fun l=>decide (l.length≤1))&&p.names.all nameOk)
def PL.ok (c:Cat) (p:PL):Bool:=p.form&&p.tables.all (rowIn c)
mutual
def PE.ty (c:Cat) (env:List (List Int)):PE→Option Int
 | .mk k op nt v up pos kids sub=>if PE.shape (.mk k op nt v up pos kids sub)=true then (match PE.tyL c env kids with
   | none=>none
   | some ks=>match PE.tyS c env sub with
     | none=>none
     | some ss=>resT env k op v up pos ks ss) else none
def PE.tyL (c:Cat) (env:List (List Int)):List PE→Option (List Int)
 | []=>some []
 | x::xs=>match PE.ty c env x with
   | none=>none
   | some t=>match PE.tyL c env xs with
     | none=>none
     | some ts=>some (t::ts)
def PE.tyS (c:Cat) (env:List (List Int)):List (PlanOf PE)→Option (List (List Int))
 | []=>some []
 | x::xs=>match PE.tyP c env x with
   | none=>none
   | some t=>match PE.tyS c env xs with
     | none=>none
     | some ts=>some (t::ts)
def PE.tyP (c:Cat) (env:List (List Int)):PlanOf PE→Option (List Int)
 | ⟨t,on,w,o,i,n,d,l⟩=>if PL.ok c ⟨t,on,w,o,i,n,d,l⟩=true then (if PE.tyOn c env t 1 on=true then (if PE.tyT c (rowsOf c t::env) w=true then (if PE.tyO c (rowsOf c t::env) o=true then PE.tyL c (rowsOf c t::env) i else none) else none) else none) else none
def PE.tyOn (c:Cat) (env:List (List Int)) (t:List Int):Nat→List (List PE)→Bool
 | _,[]=>true
 | j,x::xs=>PE.tyT c (rowsOf c (t.take j)::env) x&&PE.tyOn c env t (j+1) xs
def PE.tyT (c:Cat) (env:List (List Int)):List PE→Bool
 | []=>true
 | x::xs=>(match PE.ty c env x with
   | some t=>tru t
   | none=>false)&&PE.tyT c env xs
def PE.tyO (c:Cat) (env:List (List Int)):List (PE × Bool)→Bool
 | []=>true
 | x::xs=>PE.ty1 c env x&&PE.tyO c env xs
def PE.ty1 (c:Cat) (env:List (List Int)):PE × Bool→Bool
 |(e,_)=>(PE.ty c env e).isSome
end
section
variable (c:Cat) (env:List (List Int))
theorem PE.ty_eq (e:PE):e.ty c env=if e.shape=true then (match PE.tyL c env e.kids with
   | none=>none
   | some ks=>match PE.tyS c env e.sub with
     | none=>none
     | some ss=>resT env e.kind e.op e.value e.up e.pos ks ss) else none:=by
 cases e
 simp only [PE.ty,PE.kids,PE.sub,PE.kind,PE.op,PE.value,PE.up,PE.pos]
theorem PE.tyP_eq (p:PL):PE.tyP c env p=if PL.ok c p=true then (if PE.tyOn c env p.tables 1 p.on=true then (if PE.tyT c (rowsOf c p.tables::env) p.wher=true then (if PE.tyO c (rowsOf c p.tables::env) p.order=true then PE.tyL c (rowsOf c p.tables::env) p.items else none) else none) else none) else none:=by
 cases p
 simp only [PE.tyP]
theorem PE.tyL_len:∀ {l:List PE} {ts:List Int},PE.tyL c env l=some ts→ts.length=l.length
 | [],ts,h=>by simp only [PE.tyL] at h;cases h;rfl
 | x::l,ts,h=>by
   simp only [PE.tyL] at h
   split at h
   · cases h
   · split at h
     · cases h
     · rename_i h2
       cases h
       simp [PE.tyL_len h2]
theorem PE.tyL_snoc:∀ (l:List PE) (x:PE),PE.tyL c env (l++[x])=match PE.tyL c env l with
   | none=>none
   | some ts=>match PE.ty c env x with
     | none=>none
     | some t=>some (ts++[t])
 | [],x=>by
   simp only [List.nil_append,PE.tyL]
   try (cases PE.ty c env x <;> rfl)
 | y::l,x=>by
   simp only [List.cons_append,PE.tyL,PE.tyL_snoc l x]
   cases PE.ty c env y with
   | none=>rfl
   | some t =>
     cases PE.tyL c env l with
     | none=>rfl
     | some ts=>cases PE.ty c env x <;> rfl
theorem PE.tyL_none_take {l:List PE} {i:Nat} (hi:i<l.length) (h:PE.tyL c env (l.take (i+1))=none):PE.tyL c env l=none:=by
 have key:∀ (a b:List PE),PE.tyL c env a=none→PE.tyL c env (a++b)=none:=fun a b=>by
   induction a with
   | nil=>intro h;simp only [PE.tyL] at h;cases h
   | cons x a ih =>
     intro h
     simp only [PE.tyL,List.cons_append] at h ⊢
     cases hx:PE.ty c env x with
     | none=>rfl
     | some t =>
       rw [hx] at h
       cases ha:PE.tyL c env a with
       | none=>rw [ih ha]
       | some ts=>rw [ha] at h;cases h
 have:=key _ (l.drop (i+1)) h
 rwa [List.take_append_drop] at this
theorem PE.tyT_all:∀ (l:List PE),PE.tyT c env l=l.all fun x=>match PE.ty c env x with
   | some t=>tru t
   | none=>false
 | []=>rfl
 | x::l=>by simp only [PE.tyT,List.all_cons,PE.tyT_all l]
theorem PE.tyO_all:∀ (l:List (PE × Bool)),PE.tyO c env l=l.all fun x=>(PE.ty c env x.1).isSome
 | []=>rfl
 | x::l=>by
   obtain ⟨e,b⟩:=x
   simp only [PE.tyO,List.all_cons,PE.tyO_all l,PE.ty1]
end
end Go.Proofs.Ytolhegocbkckdaa

namespace Go.Proofs.Ytolhegocbkckdaa
open Go
variable {P:Program} {N:Nat} {L:Kn} {s:S} {tt:BT}
theorem run_equalIn_slice_nil (w:World) (d:Nat) (T e:TypeId) (ad:Option Addr) (n c n' c':Nat) (h:P.underlying T=some (.slice e)) :
   (Op.equalIn (d+1) T (.slice ad n c) (.slice none n' c')).run P w = .ok ad.isNone w:=by
 cases ad <;> simp [Op.equalIn,run_underlying h]
theorem run_guardNil {T:TypeId} (ad:Option Addr) (n c:Nat) (X Y:Operand) (w:World):(eqGuard .eql T X Y (.slice ad n c) (.slice none 0 0)).run P w = .ok () w:=by simp [eqGuard]
theorem run_eqNil {T e:TypeId} (hT:P.underlying T=some (.slice e)) (ad:Option Addr) (n c:Nat) (w:World):(binOp .eql T (.slice ad n c) (.slice none 0 0)).run P w = .ok (.bool ad.isNone) w:=by
 simp only [binOp]
 simp [Op.equal,Op.maxDepth,run_equalIn_slice_nil w 9999 T e ad n c 0 0 hT]
theorem WL.regionNil (ht:tt.ok P) {id d1 d2 i:Nat} {x:Operand} {T e ty1 ty2 X:TypeId} {t:Ty} {p1 p2:String} {a1 a2:Array Edge} {us:List V} {Q:Exit→Kn→S→Prop} (hx:opd L x=some (.sl i us)) (hT:tt.get T=some t) (hkd:t.kd = .slice e)
   (hN:(Nat.blt d1 N&&Nat.blt d2 N)=true) (h:∀ b:Bool,(us.isEmpty=false→b=false)→Q .normal ((d2,.bool b)::(d1,.sl i us)::L) s) :
   WL P N (.region id #[⟨some d1,.move x,ty1,p1,a1,none⟩,⟨some d2,.binOp .eql T (.tmp d1) (.const (.slice none 0 0)) X,ty2,p2,a2,none⟩] false) Q L s:=by
 simp only [Bool.and_eq_true] at hN
 have hN1:d1<N:=by simpa using hN.1
 have hN2:d2<N:=by simpa using hN.2
 obtain ⟨ti,td,_,hd,hk,_⟩:=tyOf_parts (ht.get hT)
 have hT':∃ e',P.underlying T=some (.slice e'):=by
   rw [hkd] at hk
   cases td <;> simp_all [kdOf]
 obtain ⟨e',hT'⟩:=hT'
 refine ⟨fun σ hσ E a h1 h2=>wp_region_list ?_⟩
 show wpList P _ _ [_,_] a E.w
 unfold wpList
 rw [if_pos (vwanted_sound (b:=true) h2 rfl)]
 left
 have k1:=VOp_sound (P:=P) (N:=N) (o:=⟨some d1,.move x,ty1,p1,a1,none⟩) (K:=fun σ' s' => σ'=put σ d1 (.sl i us)∧s'=s) (σ := σ) (s:=s) (VOp_of_vop (v := .sl i us) (s':=s) (by simp only [vop,opd_eq hσ hx,Option.map_some]) ⟨rfl,rfl⟩) (by simp [dstOk,hN1]) h1 h2
 refine Oper.wp_mono (fun a' w' hk=>?_) (k1 _)
 obtain ⟨E', σ',s',rfl,⟨rfl,rfl⟩,k2,k3,k4⟩:=hk
 unfold wpList
 rw [if_pos (vwanted_sound (b:=true) k3 rfl)]
 left
 have hv:=vev_sound k3 (show vev (put σ d1 (.sl i us)) (.tmp d1)=some (.sl i us) by simp [vev,put])
 have hxv:∃ ad n c,a'.eval (.tmp d1) = .slice ad n c∧(us.isEmpty=false→ad.isNone=false):=by
   generalize a'.eval (.tmp d1)=xv at hv
   cases hv with
   | sl _ _ _ _ _ _=>exact ⟨_,_,_,rfl,fun _=>rfl⟩
   | slz _=>exact ⟨_,_,_,rfl,fun h=>by cases h⟩
 obtain ⟨ad,n,c,e1,e2⟩:=hxv
 have hrun:(execOp a'.eval ⟨some d2,.binOp .eql T (.tmp d1) (.const (.slice none 0 0)) X,ty2,p2,a2,none⟩).run P E'.w = .ok (.value (.bool ad.isNone)) E'.w:=by
   have e4:execOp a'.eval ⟨some d2,.binOp .eql T (.tmp d1) (.const (.slice none 0 0)) X,ty2,p2,a2,none⟩=(do pure (.value (← (do eqGuard .eql T (.tmp d1) (.const (.slice none 0 0)) (a'.eval (.tmp d1)) (.slice none 0 0);binOp .eql T (a'.eval (.tmp d1)) (.slice none 0 0):Sem Value)))):=by
     simp only [execOp]
     try rfl
   rw [e4,e1]
   simp [run_guardNil (P:=P) (T:=T) ad n c (.tmp d1) (.const (.slice none 0 0)) E'.w,run_eqNil hT' ad n c E'.w]
 unfold Oper.wp
 rw [hrun,Oper.upon_value]
 exact ⟨E',put (put σ d1 (.sl i us)) d2 (.bool ad.isNone),s',rfl,⟨_,(hσ.cons d1 _).cons d2 _,h _ e2⟩,k2,k3.put hN2 .bool,k4⟩
end Go.Proofs.Ytolhegocbkckdaa

namespace Go.Proofs.Ytolhegocbkckdaa
open Go
theorem VCalls.zfamL {P:Program} {f:FuncId} {pre:List V} {s:S} {R:V→S→Prop} (sz:Nat) (h:VCalls P f (pre++[.sl s.next []]) (s.newFam 0 sz) R):VCalls P f (pre++[.zsl]) s R:=by
 intro E vals h1 h2
 obtain ⟨st,r⟩:=step_emptyFam h1 sz
 obtain ⟨a,b,rfl,ha,hb⟩:=RepL.split h2
 have hb':RepL { E with fam:=fun x=>if x=s.next then some ⟨0,none,0,sz⟩ else E.fam x } [.sl s.next []] b:=by
   cases hb with
   | cons k1 k2 =>
     cases k2
     refine .cons ?_ .nil
     cases k1
     exact .slz (.inr ⟨⟨0,none,0,sz⟩,by simp,fun _=>rfl⟩)
 refine (h _ (a++b) r ((ha.evolve st.ev).append hb')).mono fun e w' ⟨E1,v,val,s',x1,x2,x3,k,r',st'⟩=>?_
 exact ⟨E1,v,val,s',x1,x2,x3,k,r',st.trans st'⟩
@[simp] theorem setFam_setFam (t:S) (id a b c d:Nat):(t.setFam id a b).setFam id c d=t.setFam id c d:=by
 refine S.ext_eq (fun _=>rfl) (fun x=>?_) rfl
 simp only [S.setFam]
 by_cases h:x=id <;> simp [h]
theorem ext_setFam_lt {t:S} {id:Nat} (h:id<t.next) (xs:List Own) (n sz:Nat):(t.ext xs).setFam id n sz=(t.setFam id n sz).ext xs:=by
 refine S.ext_eq (fun _=>rfl) (fun x=>?_) rfl
 simp only [S.setFam,S.ext]
 by_cases h1:x=id
 · simp [h1,h]
 · simp [h1]
@[simp] theorem setFam_next (t:S) (id n sz:Nat):(t.setFam id n sz).next=t.next:=rfl
@[simp] theorem setFam_vars (t:S) (id n sz l:Nat):(t.setFam id n sz).vars l=t.vars l:=rfl
section
variable {P:Program} {N:Nat} {ops:Array Oper} {l:List Oper} {K:Kn→S→Prop} {L:Kn} {t:S} {xs:List Own} {tt:BT} {d:Nat} {ty:TypeId} {p:String} {a:Array Edge}
theorem LOps.appO (ht:tt.ok P) {T U e:TypeId} {u te:Ty} {x y:Operand} {id n sz:Nat} {us vs:List V} {w:V} (hx:opd L x=some (.sl id us)) (hlt:id<t.next) (hy:opd L y=some w) (hw:spreadO w=some vs)
   (hT:tt.get T=some u) (hkd:u.kd = .slice e) (hte:tt.get e=some te) (hz:(Nat.beq te.zero.length te.size&&Nat.blt 0 te.size)=true) (hm:Nat.beq sz te.size=true) (hU:Nat.beq U T=true) (hn:n=us.length) (hall:Elems te vs) (hb:AppB (us.length+vs.length) te.bytes)
   (hk:LOps P N ops l K ((d,.sl id (us++vs))::L) ((t.setFam id (us.length+vs.length) sz).ext xs)):LOps P N ops (⟨some d,appCall x y #[T,U],ty,p,a,none⟩::l) K L ((t.setFam id n sz).ext xs):=by
 simp only [Bool.and_eq_true] at hz
 have hU':=Nat.eq_of_beq_eq_true hU
 subst hU'
 subst hn
 have hm':=Nat.eq_of_beq_eq_true hm
 subst hm'
 refine .st (fun σ hσ => ?_) hk
 have hf:((t.setFam id us.length te.size).ext xs).fams id=some (us.length,te.size):=by rw [ext_fams_lt _ _ (by simpa using hlt)];simp [S.setFam]
 simp only [appCall,vop,vevL,opd_eq hσ hx,opd_eq hσ hy,vbuiltin,vappend,ht.get hT,hkd,ht.get hte,spreadO_eq hw,Option.bind_some,Option.map_some,if_true]
 rw [if_pos ⟨Nat.eq_of_beq_eq_true hz.1,by simpa using hz.2,hall⟩,hf]
 simp only [Option.bind_some]
 rw [if_pos ⟨trivial,trivial,hb.1,hb.2⟩,ext_setFam_lt (by simpa using hlt),setFam_setFam]
end
theorem Own2.famAt {α : Type} {f : α → V} {cs:List α} {t:S} {id szf:Nat} (sz:Nat) (hk:t.fams id=some (cs.length,szf)) (h1:∀ x,(f x).cells.length=sz) (h2:∀ x,(f x).cells.all V.scal=true):Own2 (.sl 0 (cs.map f)) (.sl id (cs.map f)) t:=by
 cases cs with
 | nil=>exact ⟨[],.emp,List.nodup_nil⟩
 | cons c cs =>
   refine ⟨[]++[(false,id)],.sl (sz:=szf) (sz':=sz) rfl rfl (cells_map h1 (c::cs)) (by rw [hk,List.length_map]) (TrL.scal ?_),by simp⟩
   rw [List.all_eq_true]
   intro v hv
   simp only [V.flat,List.mem_flatMap,List.mem_map] at hv
   obtain ⟨_,⟨x,_,rfl⟩,hv⟩:=hv
   exact List.all_eq_true.1 (h2 x) v hv
theorem Own2.famC {α : Type} {f : α → V} {cs:List α} {s:S} {xs:List Own} {k:Nat} (sz:Nat) {n szf:Nat} (hk:nthO xs k=some (.fam n szf)) (hn:n=cs.length) (h1:∀ x,(f x).cells.length=sz) (h2:∀ x,(f x).cells.all V.scal=true):Own2 (.sl 0 (cs.map f)) (.sl (s.next+k) (cs.map f)) (s.ext xs):=by
 subst hn
 exact Own2.famAt sz (by rw [ext_fams,nthO_eq hk];rfl) h1 h2
end Go.Proofs.Ytolhegocbkckdaa
