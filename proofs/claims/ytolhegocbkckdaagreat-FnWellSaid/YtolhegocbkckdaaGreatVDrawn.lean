/-
 Regions whose order is drawn, at the value level: every order that the edges allow, and a rule that walks one order and asks of what floats that it stays as it is.
 The rule for drawn regions: one order is walked; what floats past an effect must stay as it is.
 The rule for drawn regions: its proof.
 The rule for drawn regions, with its plan checked by a closed test.
 A call that changes variables of others to plain data: what it made of its own is forgotten behind it.
 Own work; no condition.
-/
import Derived.Test.YtolhegocbkckdaaGreatVCode
import Derived.Orders
namespace Go.Proofs.YtolhegocbkckdaaGreat
open Go
def yM (σ σ':Fr) (l:List Nat):Prop:=∀ t∈l, σ t = σ' t
def tmpsOf (xs:List Operand):List Nat:=xs.filterMap fun | .tmp t=>some t | _=>none
theorem YW {σ σ':Fr} {x:Operand} (h:∀ t,x = .tmp t → σ t = σ' t):yC σ x=yC σ' x:=by
 cases x with
 | tmp t=>simp [yC,h t rfl]
 | _=>rfl
theorem aA {σ σ':Fr}:∀ {xs:List Operand},(∀ x∈xs,yC σ x=yC σ' x)→uh σ xs=uh σ' xs
 | [],_=>rfl
 | x::xs,h=>by simp only [uh,h x (by simp),aA (xs:=xs) fun y hy=>h y (by simp [hy])]
theorem uS {σ σ':Fr}:∀ {xs:List (Nat × Operand)},(∀ x∈xs.map (·.2),yC σ x=yC σ' x)→yh σ xs=yh σ' xs
 | [],_=>rfl
 |(i,x)::xs,h=>by
   simp only [yh]
   rw [h x (by simp),uS (xs:=xs) fun y hy=>h y (by simp at hy ⊢;exact .inr hy)]
theorem mK {σ σ':Fr} {x:Option Operand} (h:∀ y∈x.toArray,yC σ y=yC σ' y):ZT σ x=ZT σ' x:=by
 cases x with
 | none=>rfl
 | some x=>simp only [ZT,h x (by simp)]
theorem aZ {P:Program} {o:Oper} {σ σ':Fr} {s:S} (h:∀ x∈o.op.operands,yC σ x=yC σ' x):vU P o σ s=vU P o σ' s:=by
 obtain ⟨dst,op,type,pos,after,guard⟩:=o
 simp only at h
 cases op with
 | slice T x lo hi mx =>
   simp only [Op.operands] at h
   simp only [vU]
   rw [h x (by simp),mK (x:=lo) (fun y hy=>h y (by simp at hy ⊢;simp [hy])),mK (x:=hi) (fun y hy=>h y (by simp at hy ⊢;simp [hy])),mK (x:=mx) (fun y hy=>h y (by simp at hy ⊢;simp [hy]))]
 | build T parts =>
   simp only [vU]
   rw [uS (xs:=parts.toList) (fun y hy=>h y (by simpa [Op.operands] using hy))]
 | buildSlice T len parts =>
   simp only [vU]
   rw [uS (xs:=parts.toList) (fun y hy=>h y (by simpa [Op.operands] using hy))]
 | makeFunc fn first captured =>
   simp only [vU]
   rw [aA (xs:=captured.toList) (fun y hy=>h y (by simp [Op.operands];right;simpa using hy))]
 | call c =>
   simp only [vU]
   rw [aA (xs:=c.args.toList) (fun y hy=>h y (by simp [Op.operands,Call.operands];right;simpa using hy))]
 | _=>first | rfl |(simp only [Op.operands] at h;simp at h;simp [vU,h])
theorem iZ {ops:Array Oper} {o:Oper} {σ σ':Fr} (h:yM σ σ' (o.looksAt ops)):∀ x∈o.op.operands,yC σ x=yC σ' x :=
 fun x hx=>YW fun t ht=>h t (List.mem_append_left _ (List.mem_filterMap.2 ⟨x,by simpa using hx,by rw [ht]⟩))
theorem je {ops:Array Oper} {o:Oper} {σ σ':Fr} (h:yM σ σ' (o.looksAt ops)):xA ops σ o=xA ops σ' o:=by
 unfold xA
 cases hg:o.guard with
 | none=>rfl
 | some gw =>
   obtain ⟨j,want⟩:=gw
   simp only
   cases hd:(ops[j]?).bind (·.dst) with
   | none=>rfl
   | some d =>
     have : σ d = σ' d:=h d (List.mem_append_right _ (by rw [hg];simp [hd]))
     simp only [this]
theorem QA {P:Program} {ops:Array Oper} {o:Oper} {σ σ':Fr} {s:S} {K K':Fr→S→Prop} (h:DF P o K σ s) (hs:yM σ σ' (o.looksAt ops)) (hk:∀ v s',K (kP σ o.dst v) s'→K' (kP σ' o.dst v) s'):DF P o K' σ' s:=by
 have hx:=iZ hs
 rcases h with h | ⟨vs,R,hvs,hdo,hkk⟩
 case inr=>exact .inr ⟨vs,R,by rw [← aA (xs:=o.op.operands.toList) fun y hy=>hx y (by simpa using hy)];exact hvs,hdo,fun v s' hR=>hk v s' (hkk v s' hR)⟩
 refine .inl ?_
 unfold rE at h ⊢
 split at h
 · rename_i f args A hop
   have h1:yC σ f=yC σ' f:=hx f (by rw [hop];simp [Op.operands,Call.operands])
   have h2:uh σ args.toList=uh σ' args.toList:=aA fun y hy=>hx y (by rw [hop];simp [Op.operands,Call.operands];right;simpa using hy)
   rw [← h1, ← h2]
   unfold p8 at h ⊢
   split at h
   · exact ⟨h.1,h.2.mono fun v s'=>hk v s'⟩
   · exact h.elim
 · rename_i T len parts hop
   rcases h with ⟨v,s',hv,h⟩ | ⟨ps,v,hps,hv,h⟩
   · exact .inl ⟨v,s',by rw [← aZ hx];exact hv,hk _ _ h⟩
   · exact .inr ⟨ps,v,by rw [← uS (xs:=parts.toList) (fun y hy=>hx y (by rw [hop];simpa [Op.operands] using hy))];exact hps,hv,hk _ _ h⟩
 · rename_i T l c hop
   rcases h with ⟨v,s',hv,h⟩ | ⟨x,y,v,h1,h2,hv,h⟩
   · exact .inl ⟨v,s',by rw [← aZ hx];exact hv,hk _ _ h⟩
   · exact .inr ⟨x,y,v,by rw [← hx l (by rw [hop];simp [Op.operands])];exact h1,by rw [← hx c (by rw [hop];simp [Op.operands])];exact h2,hv,hk _ _ h⟩
 · rw [← aZ hx]
   split at h
   · exact hk _ _ h
   · exact h.elim
theorem fP {P:Program} {N:Nat} {ops:Array Oper} {o:Oper} {σ σ':Fr} {s:S} {K K':Fr→S→Prop} (h:iN P N ops o K σ s) (hs:yM σ σ' (o.looksAt ops)) (hk:∀ v s',K (kP σ o.dst v) s'→K' (kP σ' o.dst v) s') :
   iN P N ops o K' σ' s:=by
 refine ⟨h.1,?_⟩
 have h2:=h.2
 rw [je hs] at h2
 split at h2
 · exact QA h2 hs hk
 · exact hk _ _ h2
 · exact h2.elim
theorem dL {P:Program} {o:Oper} {σ : Fr} {s s':S} {v:V} {K:Fr→S→Prop} (h:vU P o σ s=some (v,s')) (hk:K (kP σ o.dst v) s'):DF P o K σ s:=by
 refine .inl ?_
 unfold rE
 split
 · rename_i f args A hop
   rw [vU,hop] at h
   cases h
 · exact .inl ⟨v,s',h,hk⟩
 · exact .inl ⟨v,s',h,hk⟩
 · rw [h];exact hk
def nJ (P:Program) (N:Nat) (ops:Array Oper) (i:Nat) (K:Fr→S→Prop) (σ : Fr) (s:S):Prop :=
 match ops[i]? with
 | none=>K σ s
 | some o=>iN P N ops o K σ s
def Xc (P:Program) (N:Nat) (ops:Array Oper) (K:Fr→S→Prop):Nat→Array Bool→Fr→S→Prop
 | 0,D, σ,s=>Region.ready .any ops D=[]∧K σ s
 | fuel+1,D, σ,s=>(Region.ready .any ops D=[]→K σ s)∧∀ i∈Region.ready .any ops D,nJ P N ops i (Xc P N ops K fuel (D.setIfInBounds i true)) σ s
theorem dM {P:Program} {N:Nat} {ops:Array Oper} {Q:Exit→Fr→S→Prop} {E0:Env} {s0:S}:∀ (fuel:Nat) (D:Array Bool) {σ : Fr} {s:S},Xc P N ops (Q .normal) fuel D σ s→∀ E a,Step E0 s0 E s→xg E s→yV E σ N a →
   wpAny P .any ops (After E0 s0 N Q) fuel D a E.w
 | 0,D, σ,s,h,E,a,h0,h1,h2=>⟨h.1,E, σ,s,rfl,h.2,h1,h2,h0⟩
 | fuel+1,D, σ,s,h,E,a,h0,h1,h2=>by
   refine ⟨fun hr=>⟨E, σ,s,rfl,h.1 hr,h1,h2,h0⟩,fun i hi=>?_⟩
   have hs:=h.2 i hi
   unfold nJ at hs
   unfold wpOp
   cases ho:ops[i]? with
   | none =>
     rw [ho] at hs
     exact dM fuel _ hs E a h0 h1 h2
   | some o =>
     rw [ho] at hs
     simp only at hs ⊢
     obtain ⟨hd,hs⟩:=hs
     cases hw:xA ops σ o with
     | none=>rw [hw] at hs;exact hs.elim
     | some b =>
       have hw':=y9 h2 hw
       rw [hw] at hs
       cases b with
       | true =>
         rw [if_pos hw']
         left
         refine Oper.wp_mono (fun a' w' hk=>?_) (oP (N:=N) hs hd h1 h2 (After E0 s0 N Q))
         obtain ⟨E', σ',s',rfl,k1,k2,k3,k4⟩:=hk
         exact dM fuel _ k1 E' a' (h0.trans k4) k2 k3
       | false =>
         rw [if_neg (by simp [hw'])]
         exact dM fuel _ hs E _ h0 h1 (h2.kP hd .und)
theorem wY.drawn {P:Program} {N id:Nat} {ops:Array Oper} {Q:Exit→Fr→S→Prop} {σ : Fr} {s:S} (hm:P.follows .mixedOrders=true) (h:Xc P N ops (Q .normal) ops.size (Array.replicate ops.size false) σ s) :
   wY P N (.region id ops true) Q σ s:=by
 intro E a h1 h2
 refine wp_region_any hm ?_
 let E1:Env:={ E with w:={ E.w with drawn:=E.w.drawn+1 } }
 have hc:∀ x,E1.w.cell? x=E.w.cell? x:=fun _=>rfl
 have ev:jc E E1:=⟨fun _ _ h=>h,fun _ _ _=>rfl,fun _ _ h=>h,fun _ F h=>⟨F,h,Nat.le_refl _,fun _=>rfl⟩⟩
 have st:Step E s E1 s:=⟨ev,rfl,rfl,rfl,Nat.le_refl _,fun _ _ _=>rfl,fun _ _ h=>h,Nat.le_refl _⟩
 have r1:xg E1 s:=by
   refine ⟨fun l cs hl=>?_,h1.vv,h1.fam,h1.vL,h1.jL,h1.fresh,h1.pos,h1.vY⟩
   obtain ⟨g,arr,e,fr,k1,k2⟩:=h1.var l cs hl
   exact ⟨g,arr,e,fr,k1,k2.xQ ev rfl k2.vY⟩
 exact dM _ _ h E1 a st r1 (h2.xQ ev)
end Go.Proofs.YtolhegocbkckdaaGreat
namespace Go.Proofs.YtolhegocbkckdaaGreat
open Go
def KT (σ : Fr):Option Nat→V→Prop
 | some d,v => σ d=v
 | none,_=>True
def bX (P:Program) (ops:Array Oper) (p:Nat) (σ : Fr) (s:S):Prop :=
 match ops[p]? with
 | none=>False
 | some o=>match xA ops σ o with
   | some true=>match vU P o σ s with
     | some (v,s')=>s'=s∧KT σ o.dst v
     | none=>False
   | some false=>KT σ o.dst .und
   | none=>False
def fT (P:Program) (ops:Array Oper) (σ : Fr) (s:S):List Nat→Prop
 | []=>True
 | p::ps=>bX P ops p σ s∧fT P ops σ s ps
theorem fT.get {P:Program} {ops:Array Oper} {σ : Fr} {s:S}:∀ {l:List Nat},fT P ops σ s l→∀ p∈l,bX P ops p σ s
 | [],_,p,hp=>by cases hp
 | q::l,h,p,hp=>by
   rcases List.mem_cons.1 hp with rfl | hp
   · exact h.1
   · exact fT.get h.2 p hp
def kJ (A:List (List Nat)) (i:Nat):List Nat:=A.getD i []
def jr (F:List Nat) (i:Nat):Bool:=F.contains i
def floats (F:List Nat) (A:List (List Nat)) (pre:List Nat) (i:Nat):List Nat:=pre.filter fun p => !jr F p && !(kJ A i).contains p
def DN (P:Program) (N:Nat) (ops:Array Oper) (F:List Nat) (A:List (List Nat)) (K:Fr→S→Prop):List Nat→List Nat→Fr→S→Prop
 | _,[], σ,s=>K σ s
 | pre,i::rest, σ,s =>
   match ops[i]? with
   | none=>False
   | some o =>
     match jr F i with
     | true=>iN P N ops o (fun σ' s'=>fT P ops σ' s' (floats F A pre i)∧DN P N ops F A K (i::pre) rest σ' s') σ s
     | false=>match xA ops σ o with
       | some true=>match vU P o σ s with
         | some (v,s')=>s'=s∧DN P N ops F A K (i::pre) rest (kP σ o.dst v) s
         | none=>False
       | some false=>DN P N ops F A K (i::pre) rest (kP σ o.dst .und) s
       | none=>False
structure Plan (N:Nat) (ops:Array Oper) (order F:List Nat) (A:List (List Nat)):Prop where
 nodup:order.Nodup
 all:∀ i,i<ops.size↔i∈order
 LH:∀ (i:Nat) (o:Oper),ops[i]?=some o→aW N o=true
 M4:∀ (i:Nat) (o:Oper),ops[i]?=some o→∀ a∈kJ A i,∃ e∈o.after,Region.binds .any e=true∧(e.on=a∨a∈kJ A e.on)
 lt:∀ (i:Nat) (o:Oper),ops[i]?=some o→∀ e∈o.after,Region.binds .any e=true→e.on<i
 pair:order.Pairwise fun x y=>y ∉ kJ A x∧(jr F x=true→x∈kJ A y)
 LM:∀ i,i ∉ kJ A i
 dst:∀ (i j:Nat) (o o':Oper),ops[i]?=some o→ops[j]?=some o'→jr F i=false→i≠j→∀ d,o.dst=some d→o'.dst≠some d
 look:∀ (i j:Nat) (o o':Oper),ops[i]?=some o→ops[j]?=some o'→jr F i=false→∀ d,o.dst=some d→d∈o'.looksAt ops→i∈kJ A j
def dn (D:Array Bool) (i:Nat):Prop:=D.getD i false=true
def Closed (ops:Array Oper) (D:Array Bool):Prop :=
 ∀ (i:Nat) (o:Oper),ops[i]?=some o→dn D i→∀ e∈o.after,Region.binds .any e=true→dn D e.on
theorem Plan.nV {N:Nat} {ops:Array Oper} {order F:List Nat} {A:List (List Nat)} (pl:Plan N ops order F A) {D:Array Bool} (hc:Closed ops D):∀ (i:Nat) (o:Oper),ops[i]?=some o →
   (∀ e∈o.after,Region.binds .any e=true→dn D e.on)→∀ a∈kJ A i,dn D a:=by
 intro i
 induction i using Nat.strongRecOn with
 | ind i ih =>
   intro o ho he a ha
   obtain ⟨e,h1,h2,h3⟩:=pl.M4 i o ho a ha
   have hd:=he e h1 h2
   rcases h3 with rfl | h3
   · exact hd
   · have hlt := pl.lt i o ho e h1 h2
     have hs:i<ops.size:=(Array.getElem?_eq_some_iff.1 ho).1
     have ho':ops[e.on]?=some ops[e.on]:=Array.getElem?_eq_getElem (by omega)
     exact ih e.on hlt _ ho' (hc _ _ ho' hd) a h3
theorem w9 {ops:Array Oper} {D:Array Bool} (hs:D.size=ops.size) {i:Nat} {o:Oper} (ho:ops[i]?=some o):i∈Region.ready .any ops D↔¬ dn D i∧∀ e∈o.after,Region.binds .any e=true→dn D e.on:=by
 have hi:i<ops.size:=(Array.getElem?_eq_some_iff.1 ho).1
 have e1:D.getD i true=D.getD i false:=by
   simp [Array.getD,hs,hi]
 unfold Region.ready dn
 simp only [List.mem_filter,List.mem_range,hi,true_and,ho,Option.map_some,Option.getD_some,Bool.and_eq_true,Bool.not_eq_true',e1,Array.all_eq_true',Bool.or_eq_true,Bool.not_eq_true]
 constructor
 · rintro ⟨h1, h2⟩
   refine ⟨by simp [h1],fun e he hb=>?_⟩
   have:=h2 e he
   rcases this with h | h
   · rw [hb] at h;cases h
   · exact h
 · rintro ⟨h1, h2⟩
   refine ⟨by simpa using h1,fun e he=>?_⟩
   cases hb:Region.binds .any e
   · exact .inl rfl
   · exact .inr (h2 e he hb)
theorem cZ {ops:Array Oper} {D:Array Bool} {i:Nat} (h:i∈Region.ready .any ops D):i<ops.size:=by
 unfold Region.ready at h
 simp only [List.mem_filter,List.mem_range] at h
 exact h.1
theorem nW {N:Nat} {ops:Array Oper} {order F:List Nat} {A:List (List Nat)} (pl:Plan N ops order F A) {D:Array Bool} (hs:D.size=ops.size) (hr:Region.ready .any ops D=[]):∀ i,i<ops.size→dn D i:=by
 intro i
 induction i using Nat.strongRecOn with
 | ind i ih =>
   intro hi
   have ho:ops[i]?=some ops[i]:=Array.getElem?_eq_getElem hi
   by_cases hd:dn D i
   · exact hd
   · have:i∈Region.ready .any ops D:=(w9 hs ho).2 ⟨hd,fun e he hb=>by
       have:=pl.lt i _ ho e he hb
       exact ih _ this (by omega)⟩
     rw [hr] at this
     cases this
theorem tY {D:Array Bool} {i j:Nat} (hi:i<D.size):dn (D.setIfInBounds i true) j↔(j=i∨dn D j):=by
 unfold dn
 by_cases h:j=i
 · subst h
   simp [Array.getD_eq_getD_getElem?,hi]
 · have : i ≠ j := fun e => h e.symm
   simp [Array.getD_eq_getD_getElem?,Array.getElem?_setIfInBounds_ne this,h]
def left (ops:Array Oper) (D:Array Bool):Nat:=((List.range ops.size).filter fun i => !D.getD i false).length
theorem filter_lt {p q:Nat→Bool} (h:∀ x,q x=true→p x=true) {a:Nat}:∀ {l:List Nat},a∈l→p a=true→q a=false→(l.filter q).length<(l.filter p).length:=by
 have le:∀ l:List Nat,(l.filter q).length≤(l.filter p).length:=by
   intro l
   induction l with
   | nil=>simp
   | cons x l ih =>
     cases hq:q x
     · cases hp:p x <;> simp [hq,hp] <;> omega
     · simp [hq,h x hq];exact ih
 intro l
 induction l with
 | nil=>intro h;cases h
 | cons x l ih =>
   intro ha hp hq
   rcases List.mem_cons.1 ha with rfl | ha
   · simp [hp, hq]
     have:=le l
     omega
   · have := ih ha hp hq
     cases hq':q x
     · cases hp':p x <;> simp [hq',hp'] <;> omega
     · simp [hq',h x hq'];exact this
theorem cK {ops:Array Oper} {D:Array Bool} {i:Nat} (hs:D.size=ops.size) (hi:i<ops.size) (hd:¬ dn D i):left ops (D.setIfInBounds i true)<left ops D:=by
 unfold left
 refine filter_lt (a:=i) (fun x hx=>?_) (by simpa using hi) (by unfold dn at hd;simpa using hd) ?_
 · cases hx' : D.getD x false
   · rfl
   · have := (tY (D := D) (i := i) (j := x) (by omega)).2 (.inr hx')
     unfold dn at this
     rw [this] at hx
     exact hx
 · have := (tY (D := D) (i := i) (j := i) (by omega)).2 (.inl rfl)
   unfold dn at this
   rw [this];rfl
end Go.Proofs.YtolhegocbkckdaaGreat
namespace Go.Proofs.YtolhegocbkckdaaGreat
open Go
theorem xP {σ : Fr} {dst:Option Nat} {v:V} {d:Nat} (h:dst≠some d):kP σ dst v d = σ d:=by
 cases dst with
 | none=>rfl
 | some e =>
   have:d≠e:=fun x=>h (by rw [x])
   simp [kP,put,this]
theorem jZ {σ : Fr} {d:Nat} {v:V}:kP σ (some d) v d=v:=by simp [kP,put]
theorem Xd {P:Program} {ops:Array Oper} {p:Nat} {o:Oper} {σ σ':Fr} {s:S} (h:bX P ops p σ s) (ho:ops[p]?=some o) (hs:yM σ σ' (o.looksAt ops)) (hd:∀ d,o.dst=some d → σ' d = σ d):bX P ops p σ' s:=by
 have ha:∀ v,KT σ o.dst v→KT σ' o.dst v:=by
   intro v hv
   cases e:o.dst with
   | none=>trivial
   | some d=>rw [e] at hv;exact (hd d e).trans hv
 unfold bX at h ⊢
 rw [ho] at h ⊢
 simp only at h ⊢
 rw [← je hs, ← aZ (iZ hs)]
 split at h
 · split at h
   · exact ⟨h.1,ha _ h.2⟩
   · exact h.elim
 · exact ha _ h
 · exact h.elim
structure Inv (P:Program) (N:Nat) (ops:Array Oper) (order F:List Nat) (A:List (List Nat)) (K:Fr→S→Prop) (pre rest:List Nat) (D:Array Bool) (σD σC:Fr) (s:S):Prop where
 size:D.size=ops.size
 closed:Closed ops D
 split:order=pre.reverse++rest
 hrest:∀ i∈rest,¬ dn D i
 hpre:∀ p∈pre,¬ dn D p→jr F p=false∧bX P ops p σC s
 agree:∀ d,(∀ p∈pre,¬ dn D p→∀ o,ops[p]?=some o→o.dst≠some d) → σD d = σC d
 walk:DN P N ops F A K pre rest σC s
section
variable {P:Program} {N:Nat} {ops:Array Oper} {order F:List Nat} {A:List (List Nat)} {K:Fr→S→Prop}
theorem Inv.rel {pre rest:List Nat} {D:Array Bool} {σD σC:Fr} {s:S} (pl:Plan N ops order F A) (h:Inv P N ops order F A K pre rest D σD σC s) :
   (∀ p∈pre,∀ r∈rest,r ∉ kJ A p∧(jr F p=true→p∈kJ A r)∧p≠r)∧rest.Pairwise fun x y=>y ∉ kJ A x∧(jr F x=true→x∈kJ A y):=by
 have h1:=pl.pair
 have h2:=pl.nodup
 rw [h.split] at h1 h2
 rw [List.pairwise_append] at h1
 rw [List.nodup_append] at h2
 exact ⟨fun p hp r hr=>⟨(h1.2.2 p (by simpa using hp) r hr).1,(h1.2.2 p (by simpa using hp) r hr).2,h2.2.2 p (by simpa using hp) r hr⟩,h1.2.1⟩
theorem Inv.float {pre rest:List Nat} {i:Nat} {o:Oper} {v:V} {D:Array Bool} {σD σC:Fr} {s:S} (pl:Plan N ops order F A) (h:Inv P N ops order F A K pre (i::rest) D σD σC s) (ho:ops[i]?=some o) (he:jr F i=false)
   (hst:(match xA ops σC o with | some true=>vU P o σC s=some (v,s) | some false=>v = .und | none=>False)) (hw:DN P N ops F A K (i::pre) rest (kP σC o.dst v) s):Inv P N ops order F A K (i::pre) rest D σD (kP σC o.dst v) s:=by
 have hrel:=(h.rel pl).1
 have hnd:¬ dn D i:=h.hrest i (by simp)
 have hsame:∀ p o',ops[p]?=some o'→i ∉ kJ A p→yM σC (kP σC o.dst v) (o'.looksAt ops):=by
   intro p o' hp' hn t ht
   refine (xP fun e=>hn ?_).symm
   exact pl.look i p o o' ho hp' he t e ht
 refine ⟨h.size,h.closed,by rw [h.split];simp,fun j hj=>h.hrest j (by simp [hj]),fun p hp hd=>?_,fun d hd=>?_,hw⟩
 · rcases List.mem_cons.1 hp with rfl | hp
   · refine ⟨he, ?_⟩
     have hs:=hsame p o ho (pl.LM p)
     unfold bX
     rw [ho]
     simp only
     rw [← je hs, ← aZ (iZ hs)]
     have hat:KT (kP σC o.dst v) o.dst v:=by
       cases e:o.dst with
       | none=>trivial
       | some d=>exact jZ
     split at hst
     · rename_i e;first|(rw [e,hst];exact ⟨rfl,hat⟩)|(rw [hst];exact ⟨rfl,hat⟩)
     · rename_i e;first|(rw [e];subst hst;exact hat)|(subst hst;exact hat)
     · exact hst.elim
   · obtain ⟨k1, k2⟩ := h.hpre p hp hd
     refine ⟨k1,?_⟩
     have hpi:=hrel p hp i (by simp)
     have hpo:∃ o',ops[p]?=some o':=by
       have hps:p<ops.size:=(pl.all p).2 (by rw [h.split];simp [hp])
       exact ⟨_,Array.getElem?_eq_getElem hps⟩
     obtain ⟨o',ho'⟩:=hpo
     refine Xd k2 ho' (hsame p o' ho' hpi.1) fun d hd'=>xP fun e=>?_
     exact pl.dst i p o o' ho ho' he (fun x=>hpi.2.2 x.symm) d e hd'
 · rw [xP (hd i (by simp) hnd o ho)]
   exact h.agree d fun p hp=>hd p (by simp [hp])
theorem Inv.advance (pl:Plan N ops order F A) {D:Array Bool} {σD:Fr} {s:S}:∀ (rest pre:List Nat) (σC:Fr),Inv P N ops order F A K pre rest D σD σC s →
   ∃ pre' rest' σC',Inv P N ops order F A K pre' rest' D σD σC' s∧(rest'=[]∨∃ h t,rest'=h::t∧jr F h=true)
 | [],pre, σC,h=>⟨pre,[], σC,h,.inl rfl⟩
 | i::rest,pre, σC,h=>by
   cases he:jr F i with
   | true=>exact ⟨pre,i::rest, σC,h,.inr ⟨i,rest,rfl,he⟩⟩
   | false =>
     have hw:=h.walk
     unfold DN at hw
     cases ho:ops[i]? with
     | none=>rw [ho] at hw;exact hw.elim
     | some o =>
       rw [ho] at hw
       simp only [he] at hw
       cases hv:xA ops σC o with
       | none=>rw [hv] at hw;exact hw.elim
       | some b =>
         rw [hv] at hw
         cases b with
         | true =>
           simp only at hw
           split at hw
           case h_2=>exact hw.elim
           rename_i v s' Ul
           obtain ⟨rfl,hw⟩:=hw
           exact Inv.advance pl rest (i::pre) _ (h.float pl ho he (by rw [hv];exact Ul) hw)
         | false=>exact Inv.advance pl rest (i::pre) _ (h.float pl ho he (by rw [hv]) hw)
theorem Inv.finish (pl:Plan N ops order F A) {pre rest:List Nat} {D:Array Bool} {σD σC:Fr} {s:S} (h:Inv P N ops order F A K pre rest D σD σC s) (hr:Region.ready .any ops D=[]):K σD s:=by
 have hall:=nW pl h.size hr
 have hmem:∀ i,i∈pre.reverse++rest→dn D i:=fun i hi=>hall i ((pl.all i).2 (by rw [h.split];exact hi))
 cases hrest:rest with
 | cons i r =>
   exact (h.hrest i (by rw [hrest];simp) (hmem i (by rw [hrest];simp))).elim
 | nil =>
   have hw:=h.walk
   rw [hrest] at hw
   have : σD = σC:=funext fun d=>h.agree d fun p hp hd=>(hd (hmem p (by simp [hp]))).elim
   rw [this]
   exact hw
theorem Wq (pl:Plan N ops order F A):∀ (fuel:Nat) (D:Array Bool) (pre rest:List Nat) (σD σC:Fr) (s:S),Inv P N ops order F A K pre rest D σD σC s→left ops D≤fuel→Xc P N ops K fuel D σD s
 | 0,D,pre,rest, σD, σC,s,h,hf=>by
   have hr:Region.ready .any ops D=[]:=by
     cases hr:Region.ready .any ops D with
     | nil=>rfl
     | cons i r =>
       have hi:i∈Region.ready .any ops D:=by rw [hr];simp
       have hlt:=cZ hi
       have ho:ops[i]?=some ops[i]:=Array.getElem?_eq_getElem hlt
       have:=cK h.size hlt ((w9 h.size ho).1 hi).1
       omega
   exact ⟨hr,h.finish pl hr⟩
 | fuel+1,D,pre,rest, σD, σC,s,h,hf=>by
   refine ⟨fun hr=>h.finish pl hr,fun i hi=>?_⟩
   obtain ⟨pre,rest, σC,h,Vx⟩:=Inv.advance pl rest pre σC h
   have hlt:=cZ hi
   have ho:ops[i]?=some ops[i]:=Array.getElem?_eq_getElem hlt
   generalize ops[i]=o at ho
   obtain ⟨hnd,rz⟩:=(w9 h.size ho).1 hi
   have tC:=pl.nV h.closed i o ho rz
   have hsz:i<D.size:=by rw [h.size];exact hlt
   have hset:∀ j,dn (D.setIfInBounds i true) j↔(j=i∨dn D j):=fun j=>tY hsz
   have hleft:left ops (D.setIfInBounds i true)≤fuel:=by have:=cK h.size hlt hnd;omega
   have hclosed:Closed ops (D.setIfInBounds i true):=by
     intro j o' ho' hj e he hb
     rcases (hset j).1 hj with rfl | hj
     · rw [ho] at ho'; cases ho'
       exact (hset _).2 (.inr (rz e he hb))
     · exact (hset _).2 (.inr (h.closed j o' ho' hj e he hb))
   have hsame:yM σC σD (o.looksAt ops):=by
     intro t ht
     refine (h.agree t fun p hp hd o' ho' e=>hd ?_).symm
     exact tC p (pl.look p i o' o ho' ho (h.hpre p hp hd).1 t e ht)
   have hrel:=h.rel pl
   unfold nJ
   rw [ho]
   simp only
   have hmem:i∈pre∨i∈rest:=by
     have:=(pl.all i).1 hlt
     rw [h.split] at this
     simpa using this
   -- in what is still to come only the head can be done now
   have hhead:i∈rest→∃ t,rest=i::t∧jr F i=true:=by
     intro hir
     rcases Vx with rfl | ⟨x,t,rfl,hx⟩
     · cases hir
     · rcases List.mem_cons.1 hir with rfl | hit
       · exact ⟨t,rfl,hx⟩
       · have := (List.pairwise_cons.1 hrel.2).1 i hit
         exact (h.hrest x (by simp) (tC x (this.2 hx))).elim
   by_cases Xe:i∈pre
   · obtain ⟨he, hst⟩ := h.hpre i Xe hnd
     have hnr:i ∉ rest:=fun hr=>((hrel.1 i Xe i hr).2.2 rfl).elim
     have next:∀ v,KT σC o.dst v→Xc P N ops K fuel (D.setIfInBounds i true) (kP σD o.dst v) s:=by
       intro v hv
       refine Wq pl fuel _ pre rest _ σC s ⟨by simp [h.size],hclosed,h.split,fun j hj hd=>?_,fun p hp hd=>h.hpre p hp fun hd'=>hd ((hset p).2 (.inr hd')),fun d hd=>?_,h.walk⟩ hleft
       · rcases (hset j).1 hd with rfl | hd
         · exact hnr hj
         · exact h.hrest j hj hd
       · by_cases e : o.dst = some d
         · rw [e] at hv ⊢
           rw [jZ]
           exact hv.symm
         · rw [xP e]
           refine h.agree d fun p hp hd' o' ho'=>?_
           by_cases epi:p=i
           · subst epi;rw [ho] at ho';cases ho';exact e
           · exact hd p hp (fun x=>((hset p).1 x).elim epi hd') o' ho'
     unfold bX at hst
     rw [ho] at hst
     simp only at hst
     refine ⟨pl.LH i o ho,?_⟩
     rw [← je hsame]
     split at hst
     · rename_i e; rw [e]
       split at hst
       case h_2=>exact hst.elim
       rename_i v s' hv
       obtain ⟨rfl,hat⟩:=hst
       exact dL (by rw [← aZ (iZ hsame)];exact hv) (next v hat)
     · rename_i e;rw [e];exact next _ hst
     · exact hst.elim
   · have hir : i ∈ rest := hmem.resolve_left Xe
     obtain ⟨t,rfl,he⟩:=hhead hir
     have hw:=h.walk
     unfold DN at hw
     rw [ho] at hw
     simp only [he] at hw
     refine fP hw hsame fun v s' hk=>?_
     obtain ⟨hk1,hk2⟩:=hk
     have hnt:i ∉ t:=by
       have h2:=pl.nodup
       rw [h.split,List.nodup_append] at h2
       exact (List.nodup_cons.1 h2.2.1).1
     refine Wq pl fuel _ (i::pre) t _ (kP σC o.dst v) s' ⟨by simp [h.size],hclosed,by rw [h.split];simp,fun j hj hd=>?_,fun p hp hd=>?_,fun d hd=>?_,hk2⟩ hleft
     · rcases (hset j).1 hd with rfl | hd
       · exact hnt hj
       · exact h.hrest j (by simp [hj]) hd
     · rcases List.mem_cons.1 hp with rfl | hp
       · exact (hd ((hset p).2 (.inl rfl))).elim
       · have hd' : ¬ dn D p := fun x => hd ((hset p).2 (.inr x))
         have hpe:=(h.hpre p hp hd').1
         refine ⟨hpe,hk1.get p ?_⟩
         unfold floats
         simp only [List.mem_filter,Bool.and_eq_true,Bool.not_eq_true',hpe,List.contains_eq_mem,decide_eq_false_iff_not,true_and]
         exact ⟨hp,fun x=>hd' (tC p x)⟩
     · by_cases e : o.dst = some d
       · rw [e,jZ,jZ]
       · rw [xP e, xP e]
         refine h.agree d fun p hp hd' o' ho'=>hd p (by simp [hp]) (fun x=>((hset p).1 x).elim (fun y=>Xe (y ▸ hp)) hd') o' ho'
end
end Go.Proofs.YtolhegocbkckdaaGreat
namespace Go.Proofs.YtolhegocbkckdaaGreat
open Go
def Wx (R:Nat→Nat→Bool):List Nat→Bool
 | []=>true
 | x::l=>l.all (R x)&&Wx R l
theorem tF {R:Nat→Nat→Bool}:∀ {l:List Nat},Wx R l=true→l.Pairwise fun x y=>R x y=true
 | [],_ => .nil
 | x::l,h=>by
   simp only [Wx,Bool.and_eq_true,List.all_eq_true] at h
   exact .cons h.1 (tF h.2)
def tH (ops:Array Oper) (f:Nat→Oper→Bool):Bool:=(List.range ops.size).all fun i=>match ops[i]? with | some o=>f i o | none=>true
theorem yx {ops:Array Oper} {f:Nat→Oper→Bool} (h:tH ops f=true) {i:Nat} {o:Oper} (ho:ops[i]?=some o):f i o=true:=by
 have hi:i<ops.size:=(Array.getElem?_eq_some_iff.1 ho).1
 have:=List.all_eq_true.1 h i (List.mem_range.2 hi)
 rw [ho] at this
 exact this
def Wj (N:Nat) (ops:Array Oper) (order F:List Nat) (A:List (List Nat)):Bool :=
 Wx (fun x y=>x != y&&(!(kJ A x).contains y&&(!jr F x ||(kJ A y).contains x))) order &&
 ((List.range ops.size).all (order.contains ·)&&order.all (fun i=>decide (i<ops.size))) &&
 tH ops (fun i o=>aW N o&&((kJ A i).all (fun a=>o.after.toList.any fun e=>Region.binds .any e&&(e.on == a ||(kJ A e.on).contains a)) &&
   (o.after.toList.all (fun e => !Region.binds .any e || decide (e.on<i)) &&
   (jr F i || tH ops (fun j o'=>match o.dst with | none=>true | some d=>(i == j || o'.dst != some d)&&(!(o'.looksAt ops).contains d ||(kJ A j).contains i)))))) &&
 (List.range A.length).all fun i => !(kJ A i).contains i
theorem Vk {N:Nat} {ops:Array Oper} {order F:List Nat} {A:List (List Nat)} (h:Wj N ops order F A=true):Plan N ops order F A:=by
 simp only [Wj,Bool.and_eq_true] at h
 obtain ⟨⟨⟨h1,h2,h3⟩,h4⟩,h5⟩:=h
 have hp:=tF h1
 have each:∀ {i:Nat} {o:Oper},ops[i]?=some o→_:=fun {i o} ho=>yx h4 ho
 simp only [Bool.and_eq_true] at each
 refine ⟨hp.imp fun h=>?_,fun i=>⟨fun hi=>?_,fun hi=>?_⟩,fun i o ho=>(each ho).1,fun i o ho a ha=>?_,fun i o ho e he hb=>?_,hp.imp fun h=>?_,fun i hi=>?_,fun i j o o' ho ho' he hij d hd=>?_,fun i j o o' ho ho' he d hd hl=>?_⟩
 · simp only [Bool.and_eq_true,bne_iff_ne] at h;exact h.1
 · simpa using List.all_eq_true.1 h2 i (List.mem_range.2 hi)
 · simpa using List.all_eq_true.1 h3 i hi
 · have := List.all_eq_true.1 (each ho).2.1 a ha
   simp only [List.any_eq_true,Bool.and_eq_true,Bool.or_eq_true,beq_iff_eq,List.contains_eq_mem,decide_eq_true_eq] at this
   obtain ⟨e,h1,h2,h3⟩:=this
   exact ⟨e,by simpa using h1,h2,h3⟩
 · have := List.all_eq_true.1 (each ho).2.2.1 e (by simpa using he)
   simpa [hb] using this
 · simp only [Bool.and_eq_true, Bool.not_eq_true', Bool.or_eq_true, List.contains_eq_mem, decide_eq_false_iff_not, decide_eq_true_eq] at h
   refine ⟨h.2.1,fun hx=>?_⟩
   rcases h.2.2 with h | h
   · rw [hx] at h;cases h
   · exact h
 · by_cases hlt : i < A.length
   · have := List.all_eq_true.1 h5 i (List.mem_range.2 hlt)
     simp at this
     exact this hi
   · unfold kJ at hi
     rw [List.getD_eq_getElem?_getD,List.getElem?_eq_none (by omega)] at hi
     cases hi
 · have h6 := (each ho).2.2.2
   rw [he,Bool.false_or] at h6
   have:=yx h6 ho'
   rw [hd] at this
   simp only [Bool.and_eq_true,Bool.or_eq_true,beq_iff_eq,bne_iff_ne] at this
   exact this.1.resolve_left hij
 · have h6 := (each ho).2.2.2
   rw [he,Bool.false_or] at h6
   have:=yx h6 ho'
   rw [hd] at this
   simp only [Bool.and_eq_true,Bool.or_eq_true,Bool.not_eq_true',List.contains_eq_mem,decide_eq_false_iff_not,decide_eq_true_eq] at this
   exact this.2.resolve_left (fun x=>x hl)
@[simp] theorem K3 (s:S) (l:Nat) (cs:List V):(s.qL l cs).vars l=some cs:=by simp [S.qL]
@[simp] theorem Ct (s:S) (l:Nat) (cs:List V):(s.qL l cs).next=s.next:=by simp [S.qL]
@[simp] theorem AJ (s:S) (l:Nat) (a b:List V):(s.qL l a).qL l b=s.qL l b:=by
 unfold S.qL
 congr 1
 funext x
 by_cases h:x=l <;> simp [h]
theorem aB {s:S} {l k:Nat} (h:k≠l) (cs:List V):(s.qL l cs).vars k=s.vars k:=by simp [S.qL,h]
end Go.Proofs.YtolhegocbkckdaaGreat
namespace Go.Proofs.YtolhegocbkckdaaGreat
open Go
@[simp] theorem iQ (s:S) (xs ys:List Own):(s.ext xs).ext ys=s.ext (xs++ys):=by
 have key:∀ x,¬ x<s.next→(x<s.next+xs.length↔x - s.next<xs.length):=fun x _=>by omega
 refine S.ext_eq (fun x=>?_) (fun x=>?_) (by simp [S.ext];omega)
 all_goals
   simp only [S.ext]
   by_cases h:x<s.next
   · simp [h,show x<s.next+xs.length by omega]
   · by_cases h2 : x - s.next < xs.length
     · simp [h,(key x h).2 h2,List.getElem?_append_left h2]
     · have h3 : ¬ x < s.next + xs.length := fun e => h2 ((key x h).1 e)
       simp only [h,h3,if_false,List.getElem?_append_right (Nat.le_of_not_lt h2)]
       rw [show x - (s.next+xs.length)=x - s.next - xs.length by omega]
end Go.Proofs.YtolhegocbkckdaaGreat
