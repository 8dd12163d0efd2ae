/-
  Made slices filled from head to end with what calls have answered in new memory.
  A slice compared with nil: of an empty one it cannot be told which it is.
  Draws from a string of bytes, over the books: a cursor is a cell of the books; what is drawn has some property, the cursor has moved.
  Slices that are appended to, whose elements stay as they are; results of draws taken for plain values.
  Own work; no condition.
-/
import Derived.Test.YtolhegocbkckdaaGreatVBook
namespace Go.Proofs.YtolhegocbkckdaaGreat
open Go
variable {P:Program} {N:Nat} {ops:Array Oper} {l:List Oper} {K:Kn→S→Prop} {L:Kn} {s:S} {xs:List Own} {tt:BT} {d:Nat} {ty:TypeId} {p:String} {a:Array Edge}
theorem Fq:∀ (vs:List V) (n:Nat),(xZ n vs).1.length=vs.length:=uo
theorem xU.Ev {n b:Nat} (h:n≤68719476736) (hb:Nat.ble b 2048=true):xU n b:=by
 have hb':b≤2048:=Nat.le_of_ble_eq_true hb
 refine ⟨?_,by omega⟩
 have:=Nat.mul_le_mul h hb'
 omega
theorem U1 (z:List V):∀ n,(List.replicate n z).flatten.length=n*z.length
 | 0=>by simp
 | n+1=>by rw [List.replicate_succ,List.flatten_cons,List.length_append,U1 z n,Nat.add_mul];omega
theorem Own2.filled {ds:List V} {ex:Cp} {n sz:Nat} (hn:n=ds.length) (hp:V.xV ds=true) (hsz:∀ x∈ds,x.cells.length=sz) :
   Own2 (.sl 0 ds) (.qJ ex (s.next+0) 0 n) (s.ext (.var (V.flat (xZ (s.next+1) ds).1)::u7 (s.next+1) ds)):=by
 subst hn
 cases h:ds.isEmpty with
 | true =>
   have:ds=[]:=by simpa using h
   subst this
   exact ⟨[],.F8,List.nodup_nil⟩
 | false =>
   refine ⟨_,.qJ h rfl hsz (by rw [fO];rfl) (Zw ds (s.next+1) hp ?_),?_⟩
   · have := uQ.ext (s := s) (A := [.var (V.flat (xZ (s.next + 1) ds).1)]) (B := []) (os := (xZ (s.next + 1) ds).2) (n := s.next + 1) (by simp)
     rw [List.append_nil] at this
     exact this
   · rw [List.nodup_append]
     refine ⟨K7 _ _,by simp,?_⟩
     intro p hp q hq e
     subst e
     rw [Xp] at hp
     simp only [List.mem_singleton] at hq
     subst hq
     simp only at hp
     omega
end Go.Proofs.YtolhegocbkckdaaGreat

namespace Go.Proofs.YtolhegocbkckdaaGreat
open Go
variable {P:Program} {N:Nat} {L:Kn} {s:S} {tt:BT}
theorem run_equalIn_slice_nil (w:World) (d:Nat) (T e:TypeId) (ad:Option Addr) (n c n' c':Nat) (h:P.underlying T=some (.slice e)) :
   (Op.equalIn (d+1) T (.slice ad n c) (.slice none n' c')).run P w = .ok ad.isNone w:=by
 cases ad <;> simp [Op.equalIn,run_underlying h]
theorem XJ {T:TypeId} (ad:Option Addr) (n c:Nat) (X Y:Operand) (w:World):(eqGuard .eql T X Y (.slice ad n c) (.slice none 0 0)).run P w = .ok () w:=by simp [eqGuard]
theorem YM {T e:TypeId} (hT:P.underlying T=some (.slice e)) (ad:Option Addr) (n c:Nat) (w:World):(binOp .eql T (.slice ad n c) (.slice none 0 0)).run P w = .ok (.bool ad.isNone) w:=by
 simp only [binOp]
 simp [Op.equal,Op.maxDepth,run_equalIn_slice_nil w 9999 T e ad n c 0 0 hT]
theorem WL.YN (ht:tt.ok P) {id d1 d2 i:Nat} {x:Operand} {T e Fx Gf X:TypeId} {t:Ty} {p1 p2:String} {a1 a2:Array Edge} {us:List V} {Q:Exit→Kn→S→Prop} (hx:jf L x=some (.sl i us)) (hT:tt.get T=some t) (hkd:t.kd = .slice e)
   (hN:(Nat.blt d1 N&&Nat.blt d2 N)=true) (h:∀ b:Bool,(us.isEmpty=false→b=false)→Q .normal ((d2,.bool b)::(d1,.sl i us)::L) s) :
   WL P N (.region id #[⟨some d1,.move x,Fx,p1,a1,none⟩,⟨some d2,.binOp .eql T (.tmp d1) (.const (.slice none 0 0)) X,Gf,p2,a2,none⟩] false) Q L s:=by
 simp only [Bool.and_eq_true] at hN
 have hN1:d1<N:=by simpa using hN.1
 have Ry:d2<N:=by simpa using hN.2
 obtain ⟨ti,td,_,hd,hk,_⟩:=qh (ht.get hT)
 have hT':∃ e',P.underlying T=some (.slice e'):=by
   rw [hkd] at hk
   cases td <;> simp_all [vP]
 obtain ⟨e',hT'⟩:=hT'
 refine ⟨fun σ hσ E a h1 h2=>wp_region_list ?_⟩
 show wpList P _ _ [_,_] a E.w
 unfold wpList
 rw [if_pos (y9 (b:=true) h2 rfl)]
 left
 have k1:=oP (P:=P) (N:=N) (o:=⟨some d1,.move x,Fx,p1,a1,none⟩) (K:=fun σ' s' => σ'=put σ d1 (.sl i us)∧s'=s) (σ := σ) (s:=s) (dL (v := .sl i us) (s':=s) (by simp only [vU,qd hσ hx,Option.map_some]) ⟨rfl,rfl⟩) (by simp [aW,hN1]) h1 h2
 refine Oper.wp_mono (fun a' w' hk=>?_) (k1 _)
 obtain ⟨E', σ',s',rfl,⟨rfl,rfl⟩,k2,k3,k4⟩:=hk
 unfold wpList
 rw [if_pos (y9 (b:=true) k3 rfl)]
 left
 have hv:=qM k3 (show yC (put σ d1 (.sl i us)) (.tmp d1)=some (.sl i us) by simp [yC,put])
 have hxv:∃ ad n c,a'.eval (.tmp d1) = .slice ad n c∧(us.isEmpty=false→ad.isNone=false):=by
   generalize a'.eval (.tmp d1)=xv at hv
   cases hv with
   | sl _ _ _ _ _ _=>exact ⟨_,_,_,rfl,fun _=>rfl⟩
   | iy _=>exact ⟨_,_,_,rfl,fun h=>by cases h⟩
 obtain ⟨ad,n,c,e1,e2⟩:=hxv
 have hrun:(execOp a'.eval ⟨some d2,.binOp .eql T (.tmp d1) (.const (.slice none 0 0)) X,Gf,p2,a2,none⟩).run P E'.w = .ok (.value (.bool ad.isNone)) E'.w:=by
   have e4:execOp a'.eval ⟨some d2,.binOp .eql T (.tmp d1) (.const (.slice none 0 0)) X,Gf,p2,a2,none⟩=(do pure (.value (← (do eqGuard .eql T (.tmp d1) (.const (.slice none 0 0)) (a'.eval (.tmp d1)) (.slice none 0 0);binOp .eql T (a'.eval (.tmp d1)) (.slice none 0 0):Sem Value)))):=by
     simp only [execOp]
     try rfl
   rw [e4,e1]
   simp [XJ (P:=P) (T:=T) ad n c (.tmp d1) (.const (.slice none 0 0)) E'.w,YM hT' ad n c E'.w]
 unfold Oper.wp
 rw [hrun,Oper.upon_value]
 exact ⟨E',put (put σ d1 (.sl i us)) d2 (.bool ad.isNone),s',rfl,⟨_,(hσ.cons d1 _).cons d2 _,h _ e2⟩,k2,k3.put Ry .bool,k4⟩
end Go.Proofs.YtolhegocbkckdaaGreat

namespace Go.Proofs.YtolhegocbkckdaaGreat
open Go
theorem zK.refl:∀ (H:List BE),zK H H
 | [] => .nil
 | _::H => .cons 0 rfl rfl (zK.refl H)
theorem zK.drop {e:BE}:∀ {H H':List BE},zK H H'→zK (e::H) H'
 | _,_,.nil => .nil
 | _,_,.cons (H:=H) (H1:=H1) i h1 h2 h3 => .cons (H1:=e::H1) (i+1) h1 (by simp only [uF,h2]) (zK.drop h3)
theorem Hold.front {s:S} {b i:Nat} {e:BE} {H H1:List BE} (h:Hold s b H) (hi:kK H i=some e) (he:uF H i=some H1):Hold s b (e::H1):=h.sel (.cons i hi he (zK.refl _))
def U2 (a b:Int):Int:=IntKind.i64.wrap (BitVec.ofInt 64 a &&& BitVec.ofInt 64 b).toNat
theorem YO (a:Int) (m:Nat) (hm:m<9223372036854775808):0≤U2 a m∧U2 a m≤m:=by
 unfold U2
 have h:(BitVec.ofInt 64 a &&& BitVec.ofInt 64 (m:Int)).toNat≤m:=by
   rw [BitVec.toNat_and,BitVec.ofInt_natCast,BitVec.toNat_ofNat,Nat.mod_eq_of_lt (by omega:m<2 ^ 64)]
   exact Nat.and_le_right
 rw [IntKind.wrap_i64]
 omega
theorem band_255 (a:Int):0≤U2 a 255∧U2 a 255≤255:=YO a 255 (by omega)
def Gg (a b:Int):Bool:=decide (a≤b)
def yA (b:UInt8):V := .int .u8 b.toNat
def vw (b:V) (i h:Int):List V:=[b,.int .i64 i,.int .i64 h]
def Bytes (b:V):Prop:=b = .zl∨∃ bs:List UInt8,b = .sl 0 (bs.map yA)∧bs.length≤maxLen
def bN (P:Program) (g:FuncId) (b:V) (args:List V) {α : Type} (f : α → V) (p : α → Prop):Prop :=
 ∀ (s:S) (H:List BE) (l:Nat) (i h:Int),0≤i→Hold s s.next (.cell l (vw b i h)::H) →
   VCalls P g (.ptr l 0::args) (s.ext []) (fun v t=>∃ (x : α) (s':S) (i' h':Int),p x∧v=f x∧0≤i'∧t=s'.ext []∧Hold s' s'.next (.cell l (vw b i' h')::H))
theorem bN.fin {s:S} {b:V} {α : Type} {f : α → V} {p : α → Prop} {v:V} {l:Nat} {i' h':Int} {H H':List BE} (x : α) (hp:p x) (hv:v=f x) (hi:0≤i') (hh:Hold s s.next H') (hs:zK H' (.cell l (vw b i' h')::H)) :
   ∃ (x : α) (s':S) (i' h':Int),p x∧v=f x∧0≤i'∧s.ext []=s'.ext []∧Hold s' s'.next (.cell l (vw b i' h')::H):=⟨x,s,i',h',hp,hv,hi,rfl,hh.sel hs⟩
def U3 (P:Program) (g:FuncId) (b:V):Prop :=
 ∀ (s:S) (H:List BE),Hold s s.next H→VCalls P g [b] (s.ext []) (fun v t=>∃ (l:Nat) (s':S) (h':Int),v = .ptr l 0∧t=s'.ext []∧Hold s' s'.next (.cell l (vw b 0 h')::H))
def Za (P:Program) (g:FuncId) (b:V) {α : Type} (f : α → V) (p : α → Prop):Prop:=∀ (s:S) (H:List BE),Hold s s.next H→VCalls P g [b] (s.ext []) (fun v t=>∃ (x : α) (s':S),p x∧v=f x∧t=s'.ext []∧Hold s' s'.next H)
theorem zk.shr {P:Program} {L:Kn} {s:S} {T U:TypeId} {x y:Operand} {k k':IntKind} {m n:Int} (hx:jf L x=some (.int k m)) (hy:jf L y=some (.int k' n)) (h:Gg 0 n=true):zk P (.binOp .shr T x y U) L s (.int k (m.fdiv (2 ^ (min n.toNat k.bits)))) :=
 .of fun σ hσ _ _ _ _ _=>by
   have h':0≤n:=by simpa [Gg] using h
   simp only [vU,qd hσ hx,qd hσ hy,aJ,h',Option.bind_some,if_true,Option.map_some]
theorem zk.rem {P:Program} {L:Kn} {s:S} {T U:TypeId} {x y:Operand} {k:IntKind} {m n:Int} (hx:jf L x=some (.int k m)) (hy:jf L y=some (.int k n)) (h:0<n):zk P (.binOp .rem T x y U) L s (.int k (m.tmod n)) :=
 .of fun σ hσ _ _ _ _ _=>by
   have h':¬ n=0:=by omega
   simp only [vU,qd hσ hx,qd hσ hy,aJ,rC,h',Option.bind_some,if_true,if_false,Option.map_some]
section
variable {P:Program} {N:Nat} {ops:Array Oper} {l:List Oper} {K:Kn→S→Prop} {L:Kn} {s:S} {d:Nat} {ty:TypeId} {p:String} {a:Array Edge} {H H1:List BE}
theorem zq.qc {f:Operand} {g:FuncId} {args:Array Operand} {B:Array TypeId} {vs:List V} {m:Nat} {b:V} {i h:Int} {α : Type} {F : α → V} {q : α → Prop} (j:Nat) (hf:jf L f=some (.fn g [])) (ha:uE L args.toList=some (.ptr m 0::vs)) (hok:zW P g)
   (hh:Hold s s.next H) (hi:kK H j=some (.cell m (vw b i h))) (he:uF H j=some H1) (h0:0≤i) (hc:bN P g b vs F q)
   (hk:∀ (s':S) (x : α) (i' h':Int),q x→0≤i'→Hold s' s'.next (.cell m (vw b i' h')::H1)→zq P N ops l K ((d,F x)::L) (s'.ext [])) :
   zq P N ops (⟨some d,.call ⟨.value f,args,B⟩,ty,p,a,none⟩::l) K L (s.ext []):=by
 refine .call hf ha (uJ _) hok (hc s H1 m i h h0 (hh.front hi he)) fun v s' hv=>?_
 obtain ⟨x,t,i',h',h1,rfl,h2,rfl,h3⟩:=hv
 exact hk t x i' h' h1 h2 h3
theorem zq.Bo {f:Operand} {g:FuncId} {args:Array Operand} {B:Array TypeId} {b:V} (hf:jf L f=some (.fn g [])) (ha:uE L args.toList=some [b]) (hok:zW P g)
   (hh:Hold s s.next H) (hc:U3 P g b) (hk:∀ (s':S) (m:Nat) (h':Int),Hold s' s'.next (.cell m (vw b 0 h')::H)→zq P N ops l K ((d,.ptr m 0)::L) (s'.ext [])) :
   zq P N ops (⟨some d,.call ⟨.value f,args,B⟩,ty,p,a,none⟩::l) K L (s.ext []):=by
 refine .call hf ha (uJ _) hok (hc s H hh) fun v s' hv=>?_
 obtain ⟨m,t,h',rfl,rfl,h3⟩:=hv
 exact hk t m h' h3
theorem zq.Bp {f:Operand} {g:FuncId} {args:Array Operand} {B:Array TypeId} {b:V} {α : Type} {F : α → V} {q : α → Prop} (hf:jf L f=some (.fn g [])) (ha:uE L args.toList=some [b]) (hok:zW P g)
   (hh:Hold s s.next H) (hc:Za P g b F q) (hk:∀ (s':S) (x : α),q x→Hold s' s'.next H→zq P N ops l K ((d,F x)::L) (s'.ext [])) :
   zq P N ops (⟨some d,.call ⟨.value f,args,B⟩,ty,p,a,none⟩::l) K L (s.ext []):=by
 refine .call hf ha (uJ _) hok (hc s H hh) fun v s' hv=>?_
 obtain ⟨x,t,h1,rfl,rfl,h3⟩:=hv
 exact hk t x h1 h3
end
end Go.Proofs.YtolhegocbkckdaaGreat

namespace Go.Proofs.YtolhegocbkckdaaGreat
open Go
theorem VCalls.Br {P:Program} {f:FuncId} {args:List V} {s:S} {R:V→S→Prop} (h:VCalls P f args s (fun v s'=>R v.forget s')):VCalls P f args s R :=
 fun E vals h1 h2=>(h E vals h1 h2).mono fun _ _ ⟨E',v,val,s',a,b,c,k,r,st⟩=>⟨E',v.forget,val,s',a,b,c,k,r.forget,st⟩
theorem Hold.Gh {s:S} {b i id sz:Nat} {us ds:List V} {H H':List BE} (h:Hold s b H) (hi:kK H i=some (.acc id sz us ds)) (hs:fC H i (.Bg id sz us)=some H'):Hold s b H':=by
 obtain ⟨ls,h1,h2,h3⟩:=h.ex
 obtain ⟨H1,he⟩:=sQ hi
 obtain ⟨a,l',⟨l1,rfl,k2,k3,k4⟩,k5,k6⟩:=h1.take hi he
 obtain ⟨q,m1,m2⟩:=k5.put he hs (show Km s (.Bg id sz us) [(false,id)] from ⟨rfl,k3⟩)
 have hl:j4 q ls:=m2.trans (((j4.right l1 [(false,id)]).app (j4.refl l')).trans k6)
 exact ⟨q,m1,hl.1 h2,fun p hp=>h3 p (hl.2 p hp)⟩
theorem Hold.Gi {s:S} {H:List BE} {b id sz:Nat} {us:List V} (h:Hold s b H) (hm:BE.Bg id sz us∈H):id<b∧s.xJ id=some (us.length,sz):=by
 obtain ⟨a,⟨h1,h2⟩,h5⟩:=h.at hm
 exact ⟨h5 (false,id) (by rw [h1];simp),h2⟩
section
variable {P:Program} {N:Nat} {ops:Array Oper} {l:List Oper} {K:Kn→S→Prop} {L:Kn} {s:S} {tt:BT} {d:Nat} {ty:TypeId} {p:String} {a:Array Edge} {H:List BE}
theorem zq.Nu (ht:tt.ok P) {T U e:TypeId} {t te:Ty} {x y:Operand} {id sz:Nat} {us vs:List V} {w:V} {H2:List BE} (i:Nat) (hx:jf L x=some (.sl id us)) (hi:kK H i=some (.Bg id sz us)) (hs:fC H i (.Bg id sz (us++vs))=some H2) (hy:jf L y=some w) (hw:iW w=some vs)
   (hT:tt.get T=some t) (hkd:t.kd = .slice e) (hte:tt.get e=some te) (hz:(Nat.beq te.zero.length te.size&&Nat.blt 0 te.size)=true) (hsz:Nat.beq sz te.size=true) (hU:Nat.beq U T=true) (hh:Hold s s.next H)
   (hall:zS te vs) (hb:xU (us.length+vs.length) te.bytes)
   (hk:∀ s':S,Hold s' s'.next H2→zq P N ops l K ((d,.sl id (us++vs))::L) (s'.ext [])):zq P N ops (⟨some d,jQ x y #[T,U],ty,p,a,none⟩::l) K L (s.ext []):=by
 simp only [Bool.and_eq_true] at hz
 have Vv:=Nat.eq_of_beq_eq_true hU
 subst Vv
 have hsz':=Nat.eq_of_beq_eq_true hsz
 subst hsz'
 obtain ⟨hid,hfm⟩:=hh.Gi (List.mem_of_getElem? (kF hi))
 have hnew:Hold (s.xX id (us.length+vs.length) te.size) (s.xX id (us.length+vs.length) te.size).next H2:=by
   refine hh.turn (s':=s.xX id (us.length+vs.length) te.size) hi hs (Nat.le_refl s.next) fun a ha=>⟨⟨ha.1,by simp [S.xX]⟩,fun p hp=>⟨fun _=>rfl,fun e=>?_⟩⟩
   have:p.2≠id:=fun e2=>by
     refine hp ?_
     rw [ha.1]
     obtain ⟨p1,p2⟩:=p
     simp only at e e2
     simp [e,e2]
   simp [S.xX,this]
 refine .st (v := .sl id (us++vs)) (s':=(s.xX id (us.length+vs.length) te.size).ext []) (fun σ hσ => ?_) (hk _ hnew)
 simp only [jQ,vU,uh,qd hσ hx,qd hσ hy,j3,y7,ht.get hT,hkd,ht.get hte,yN hw,Option.bind_some,Option.map_some,if_true]
 rw [if_pos ⟨Nat.eq_of_beq_eq_true hz.1,by simpa using hz.2,hall⟩,wo s [] hid,hfm]
 simp only [Option.bind_some]
 rw [if_pos ⟨trivial,trivial,hb.1,hb.2⟩,rJ hid]
end
theorem zk.fD {P:Program} {L:Kn} {s:S} {tt:BT} (ht:tt.ok P) {T e:TypeId} {t te:Ty} {m:Nat} {parts:Array (Nat × Operand)} {ps:List (Nat × V)} {vs:List V} (hp:mJ L parts.toList=some ps) (hT:tt.get T=some t) (hkd:t.kd = .slice e) (hte:tt.get e=some te)
   (hz:(Nat.beq te.zero.length te.size&&Nat.blt 0 te.size&&Nat.ble (m*te.size) 16777216)=true) (Ut:Xh 0 ps=some vs) (hlen:Nat.beq vs.length m=true) (hm:Nat.beq m 0=false) (hel:pq te vs=true):zk P (.buildSlice T m parts) L s (.sl 0 vs):=by
 simp only [Bool.and_eq_true] at hz
 have hm':vs.length=m:=Nat.eq_of_beq_eq_true hlen
 have h0:¬ m=0:=fun e=>by rw [e] at hm;cases hm
 have hz1:te.zero.length=te.size:=Nat.eq_of_beq_eq_true hz.1.1
 have hz2:0<te.size:=by simpa using hz.1.2
 have hz3:m*te.size≤16777216:=Nat.le_of_ble_eq_true hz.2
 have hel:=jM.of hel
 have hcl:∀ v∈vs,v.cells.length=te.size:=fun v hv=>(hel v hv).1
 have hf:∀ v∈vs,v.fits te.agg=true:=fun v hv=>(hel v hv).2
 have gy:=aQ (n:=m) hz1 (us:=[]) (by simpa using Ut) (by simpa using hcl) (by simp;omega)
 rw [List.nil_append,wS hm',aY] at gy
 have hsz1:te.agg=false→te.size=1:=fun hag=>by
   cases vs with
   | nil=>exact absurd hm'.symm h0
   | cons v r =>
     obtain ⟨h1,h2⟩:=hel v (by simp)
     rw [← h1]
     rw [hag] at h2
     cases v <;> simp_all [V.fits,V.cells,V.one]
 have hck:=aU hz2 hcl hf
 rw [hm'] at hck
 have hb:ku P T m ps s=some (.sl s.next vs,s.kL m te.size):=by
   simp only [ku,ht.get hT,hkd,ht.get hte,Option.bind_some]
   rw [if_pos ⟨hz1,hz2,hz3⟩,gy]
   simp only [Option.bind_some]
   rw [if_neg h0,if_pos (uR hf hsz1),hck]
 refine ⟨fun σ hσ dst ty p a g K hk=>?_⟩
 refine .inl ?_
 unfold rE
 exact .inr ⟨ps,.sl 0 vs,dO hσ hp,by simp only [Uc,hb],hk⟩
theorem zk.Bt {P:Program} {L:Kn} {s:S} {tt:BT} (ht:tt.ok P) {us:List V} {T e:TypeId} {t te:Ty} {x i:Operand} {id n:Nat} {k:IntKind} (hx:jf L x=some (.sl id us)) (hT:tt.get T=some t) (hkd:t.kd = .slice e) (hte:tt.get e=some te) (hi:jf L i=some (.int k (n:Int)))
   (hn:n≤us.length):zk P (.slice T x none (some i) none) L s (.sl 0 (us.take n)):=by
 refine zk.slc (lo':=none) (hi':=some (.int k (n:Int))) (mx':=none) hx rfl (by simp only [YU,hi]) rfl ?_
 simp only [oM,ht.get hT,hkd,ht.get hte,Option.bind_some,bound,Int.toNat_natCast,Int.natCast_nonneg,if_true]
 rw [if_pos ⟨Nat.zero_le _,hn,by simp⟩,List.drop_zero,Nat.sub_zero]
theorem zk.mkF {P:Program} {L:Kn} {s:S} {tt:BT} (ht:tt.ok P) {T e:TypeId} {t te:Ty} {x y:Operand} {k k':IntKind} {m:Nat} (hx:jf L x=some (.int k (m:Int))) (hy:jf L y=some (.int k' (m:Int))) (hT:tt.get T=some t) (hkd:t.kd = .slice e) (hte:tt.get e=some te)
   (hz:(Nat.beq te.zero.length te.size&&Nat.blt 0 te.size)=true) (hb:xU m te.bytes):zk P (.makeSlice T x y) L s (.sl 0 (List.replicate m (.agg te.zero))):=by
 simp only [Bool.and_eq_true] at hz
 have h1:=hb.1
 have h2:=hb.2
 have h3:(te.bytes:Int)*(m:Int)≤140737488355328:=by rw [Int.mul_comm, ← Int.natCast_mul];omega
 refine ⟨fun σ hσ dst ty p a g K hk=>?_⟩
 refine .inl ?_
 unfold rE
 refine .inr ⟨_,_,_,qd hσ hx,qd hσ hy,?_,hk⟩
 simp only [A9,ht.get hT,hkd,ht.get hte,Option.bind_some]
 rw [if_pos ⟨Nat.eq_of_beq_eq_true hz.1,by simpa using hz.2,by omega,trivial,by omega,h3⟩,Int.toNat_natCast]
end Go.Proofs.YtolhegocbkckdaaGreat
