/-
  Drawn regions in which some effects may come in several orders: a tree of orders, walked.
  Further rules over the books: appends to a slice of nothing, slice literals of what lies in variables, a row with one more cell.
  Own work; no condition.
-/
import Derived.Test.YtolhegocbkckdaaGreatMg10
namespace Go.Proofs.YtolhegocbkckdaaGreat
open Go
inductive OT where
 | done
 | stop
 | fl (i:Nat) (t:OT)
 | ef (i:Nat) (t alt:OT)
def OT.heads:OT→List Nat
 | .ef i _ alt=>i::alt.heads
 | _=>[]
def XV (P:Program) (N:Nat) (ops:Array Oper) (F:List Nat) (A:List (List Nat)) (K:Fr→S→Prop):List Nat→OT→Fr→S→Prop
 | _,.done, σ,s=>K σ s
 | _,.stop,_,_=>True
 | pre,.fl i t, σ,s =>
   match ops[i]? with
   | none=>False
   | some o=>match xA ops σ o with
       | some true=>∃ v,Xl P o σ s v∧XV P N ops F A K (i::pre) t (kP σ o.dst v) s
       | some false=>XV P N ops F A K (i::pre) t (kP σ o.dst .und) s
       | none=>False
 | pre,.ef i t alt, σ,s =>
   (match ops[i]? with
   | none=>False
   | some o=>iN P N ops o (fun σ' s'=>Z6 P ops σ' s' (floats F A pre i)∧XV P N ops F A K (i::pre) t σ' s') σ s)∧XV P N ops F A K pre alt σ s
def Ew (l m:List Nat):Bool:=l.all fun x=>m.contains x
def CF (n:Nat) (A:List (List Nat)) (pre hs:List Nat):Bool:=(List.range n).all fun r=>pre.contains r ||(hs.contains r || hs.any fun x=>(kJ A r).contains x)
def OT.Ko (n:Nat) (F:List Nat) (A:List (List Nat)):Bool→List Nat→OT→Bool
 | _,pre,.done=>(List.range n).all fun i=>pre.contains i
 | top,_,.stop => !top
 | top,pre,.fl i t=>top&&(!jr F i&&(decide (i<n)&&(!pre.contains i&&(Ew (kJ A i) pre&&t.Ko n F A true (i::pre)))))
 | top,pre,.ef i t alt=>(!top || CF n A pre (i::alt.heads))&&(jr F i&&(decide (i<n)&&(!pre.contains i&&(Ew (kJ A i) pre&&(t.Ko n F A true (i::pre)&&alt.Ko n F A false pre)))))
structure nD (N:Nat) (ops:Array Oper) (F:List Nat) (A:List (List Nat)):Prop where
 LH:∀ (i:Nat) (o:Oper),ops[i]?=some o→aW N o=true
 M4:∀ (i:Nat) (o:Oper),ops[i]?=some o→∀ a∈kJ A i,∃ e∈o.after,Region.binds .any e=true∧(e.on=a∨a∈kJ A e.on)
 lt:∀ (i:Nat) (o:Oper),ops[i]?=some o→∀ e∈o.after,Region.binds .any e=true→e.on<i
 LM:∀ i,i ∉ kJ A i
 dst:∀ (i j:Nat) (o o':Oper),ops[i]?=some o→ops[j]?=some o'→jr F i=false→i≠j→∀ d,o.dst=some d→o'.dst≠some d
 look:∀ (i j:Nat) (o o':Oper),ops[i]?=some o→ops[j]?=some o'→jr F i=false→∀ d,o.dst=some d→d∈o'.looksAt ops→i∈kJ A j
theorem nD.nV {N:Nat} {ops:Array Oper} {F:List Nat} {A:List (List Nat)} (pl:nD N ops F A) {D:Array Bool} (hc:Closed ops D):∀ (i:Nat) (o:Oper),ops[i]?=some o →
   (∀ e∈o.after,Region.binds .any e=true→dn D e.on)→∀ a∈kJ A i,dn D a:=by
 intro i
 induction i using Nat.strongRecOn with
 | ind i ih =>
   intro o ho he a ha
   obtain ⟨e,h1,h2,h3⟩:=pl.M4 i o ho a ha
   have hd:=he e h1 h2
   rcases h3 with rfl | h3
   · exact hd
   · have hlt := pl.lt i o ho e h1 h2
     have hs:i<ops.size:=(Array.getElem?_eq_some_iff.1 ho).1
     have ho':ops[e.on]?=some ops[e.on]:=Array.getElem?_eq_getElem (by omega)
     exact ih e.on hlt _ ho' (hc _ _ ho' hd) a h3
theorem nD.nW {N:Nat} {ops:Array Oper} {F:List Nat} {A:List (List Nat)} (pl:nD N ops F A) {D:Array Bool} (hs:D.size=ops.size) (hr:Region.ready .any ops D=[]):∀ i,i<ops.size→dn D i:=by
 intro i
 induction i using Nat.strongRecOn with
 | ind i ih =>
   intro hi
   have ho:ops[i]?=some ops[i]:=Array.getElem?_eq_getElem hi
   by_cases hd:dn D i
   · exact hd
   · have:i∈Region.ready .any ops D:=(w9 hs ho).2 ⟨hd,fun e he hb=>by
       have:=pl.lt i _ ho e he hb
       exact ih _ this (by omega)⟩
     rw [hr] at this
     cases this
structure pK (P:Program) (N:Nat) (ops:Array Oper) (F:List Nat) (A:List (List Nat)) (K:Fr→S→Prop) (pre:List Nat) (t:OT) (D:Array Bool) (σD σC:Fr) (s:S):Prop where
 size:D.size=ops.size
 closed:Closed ops D
 lt:∀ p∈pre,p<ops.size
 BZ:∀ p∈pre,∀ a∈kJ A p,a∈pre
 hrest:∀ i,i<ops.size→i ∉ pre→¬ dn D i
 hpre:∀ p∈pre,¬ dn D p→jr F p=false∧Vy P ops p σC s
 agree:∀ d,(∀ p∈pre,¬ dn D p→∀ o,ops[p]?=some o→o.dst≠some d) → σD d = σC d
 ok:t.Ko ops.size F A true pre=true
 walk:XV P N ops F A K pre t σC s
section
variable {P:Program} {N:Nat} {ops:Array Oper} {F:List Nat} {A:List (List Nat)} {K:Fr→S→Prop}
theorem WZ {l m:List Nat} (h:Ew l m=true):∀ a∈l,a∈m:=fun a ha=>by
 have:=List.all_eq_true.1 h a ha
 simpa using this
theorem Ey {n i:Nat} {pre:List Nat} {t:OT} (h:(OT.fl i t).Ko n F A true pre=true):jr F i=false∧i<n∧i ∉ pre∧(∀ a∈kJ A i,a∈pre)∧t.Ko n F A true (i::pre)=true:=by
 simp only [OT.Ko,Bool.true_and,Bool.and_eq_true,Bool.not_eq_true',decide_eq_true_eq] at h
 exact ⟨h.1,h.2.1,by have:=h.2.2.1;simpa using this,WZ h.2.2.2.1,h.2.2.2.2⟩
theorem pK.float {pre:List Nat} {i:Nat} {t:OT} {o:Oper} {v:V} {D:Array Bool} {σD σC:Fr} {s:S} (pl:nD N ops F A) (h:pK P N ops F A K pre (.fl i t) D σD σC s) (ho:ops[i]?=some o)
   (hst:(match xA ops σC o with | some true=>Xl P o σC s v | some false=>v = .und | none=>False)) (hw:XV P N ops F A K (i::pre) t (kP σC o.dst v) s):pK P N ops F A K (i::pre) t D σD (kP σC o.dst v) s:=by
 obtain ⟨he,hi,Xe,hia,hok⟩:=Ey h.ok
 have hnd:¬ dn D i:=h.hrest i hi Xe
 have hsame:∀ p o',ops[p]?=some o'→i ∉ kJ A p→yM σC (kP σC o.dst v) (o'.looksAt ops):=by
   intro p o' hp' hn t ht
   refine (xP fun e=>hn ?_).symm
   exact pl.look i p o o' ho hp' he t e ht
 refine ⟨h.size,h.closed,fun p hp=>?_,fun p hp a ha=>?_,fun j hj hjp=>h.hrest j hj fun x=>hjp (by simp [x]),fun p hp hd=>?_,fun d hd=>?_,hok,hw⟩
 · rcases List.mem_cons.1 hp with rfl | hp
   · exact hi
   · exact h.lt p hp
 · rcases List.mem_cons.1 hp with rfl | hp
   · exact List.mem_cons_of_mem _ (hia a ha)
   · exact List.mem_cons_of_mem _ (h.BZ p hp a ha)
 · rcases List.mem_cons.1 hp with rfl | hp
   · refine ⟨he, ?_⟩
     have hs:=hsame p o ho (pl.LM p)
     unfold Vy
     rw [ho]
     simp only
     rw [← je hs]
     have hat:KT (kP σC o.dst v) o.dst v:=by
       cases e:o.dst with
       | none=>trivial
       | some d=>exact jZ
     split at hst
     · rename_i e;rw [e];exact ⟨v,hst.congr hs,hat⟩
     · rename_i e;rw [e];subst hst;exact hat
     · exact hst.elim
   · obtain ⟨k1, k2⟩ := h.hpre p hp hd
     refine ⟨k1,?_⟩
     have hpi:i ∉ kJ A p:=fun x=>Xe (h.BZ p hp i x)
     have hpo:∃ o',ops[p]?=some o':=⟨_,Array.getElem?_eq_getElem (h.lt p hp)⟩
     obtain ⟨o',ho'⟩:=hpo
     refine K6 k2 ho' (hsame p o' ho' hpi) fun d hd'=>xP fun e=>?_
     exact pl.dst i p o o' ho ho' he (fun x=>Xe (x ▸ hp)) d e hd'
 · rw [xP (hd i (by simp) hnd o ho)]
   exact h.agree d fun p hp=>hd p (by simp [hp])
theorem pK.advance (pl:nD N ops F A) {D:Array Bool} {σD:Fr} {s:S}:∀ (t:OT) (pre:List Nat) (σC:Fr),pK P N ops F A K pre t D σD σC s →
   ∃ pre' t' σC',pK P N ops F A K pre' t' D σD σC' s∧(t' = .done∨∃ i u alt,t' = .ef i u alt)
 | .done,pre, σC,h=>⟨pre,.done, σC,h,.inl rfl⟩
 | .stop,pre, σC,h=>by have:=h.ok;simp [OT.Ko] at this
 | .ef i u alt,pre, σC,h=>⟨pre,_, σC,h,.inr ⟨i,u,alt,rfl⟩⟩
 | .fl i t,pre, σC,h=>by
   have hw:=h.walk
   unfold XV at hw
   cases ho:ops[i]? with
   | none=>rw [ho] at hw;exact hw.elim
   | some o =>
     rw [ho] at hw
     simp only at hw
     cases hv:xA ops σC o with
     | none=>rw [hv] at hw;exact hw.elim
     | some b =>
       rw [hv] at hw
       cases b with
       | true =>
         obtain ⟨v,Ul,hw⟩:=hw
         exact pK.advance pl t (i::pre) _ (h.float pl ho (by rw [hv];exact Ul) hw)
       | false=>exact pK.advance pl t (i::pre) _ (h.float pl ho (by rw [hv]) hw)
theorem pK.finish (pl:nD N ops F A) {pre:List Nat} {t:OT} {D:Array Bool} {σD σC:Fr} {s:S} (h:pK P N ops F A K pre t D σD σC s) (hr:Region.ready .any ops D=[]):K σD s:=by
 have hall:=pl.nW h.size hr
 have hin:∀ i,i<ops.size→i∈pre:=fun i hi=>by
   rcases Classical.em (i∈pre) with hp | hp
   · exact hp
   · exact (h.hrest i hi hp (hall i hi)).elim
 obtain ⟨Gl,t2, σ2,h2,Vx⟩:=pK.advance pl t pre σC h
 have hin2:∀ i,i<ops.size→i∈Gl:=fun i hi=>by
   rcases Classical.em (i∈Gl) with hp | hp
   · exact hp
   · exact (h2.hrest i hi hp (hall i hi)).elim
 rcases Vx with rfl | ⟨i,u,alt,rfl⟩
 · have hw := h2.walk
   have : σD = σ2:=funext fun d=>h2.agree d fun p hp hd=>(hd (hall p (h2.lt p hp))).elim
   rw [this]
   exact hw
 · have := h2.ok
   simp only [OT.Ko,Bool.and_eq_true,Bool.not_eq_true',decide_eq_true_eq] at this
   have h3:=this.2.2.2.1
   have h4:=hin2 i this.2.2.1
   simp [h4] at h3
theorem XV.pick {pre:List Nat} {n:Nat} {i:Nat}:∀ {t:OT} {b:Bool} {σ : Fr} {s:S},XV P N ops F A K pre t σ s→t.Ko n F A b pre=true→i∈t.heads →
   ∃ u,(match ops[i]? with | none=>False | some o=>iN P N ops o (fun σ' s'=>Z6 P ops σ' s' (floats F A pre i)∧XV P N ops F A K (i::pre) u σ' s') σ s)∧jr F i=true∧u.Ko n F A true (i::pre)=true∧∀ a∈kJ A i,a∈pre
 | .ef j u alt,b, σ,s,h,hok,hi=>by
   unfold XV at h
   simp only [OT.Ko,Bool.and_eq_true,Bool.not_eq_true',decide_eq_true_eq] at hok
   obtain ⟨k0,k1,k2,k3,k4,k5,k6⟩:=hok
   simp only [OT.heads] at hi
   by_cases e:i=j
   · subst e
     exact ⟨u,h.1,k1,k5,WZ k4⟩
   · exact XV.pick h.2 k6 ((List.mem_cons.1 hi).resolve_left e)
 | .done,_,_,_,_,_,hi=>by cases hi
 | .stop,_,_,_,_,_,hi=>by cases hi
 | .fl _ _,_,_,_,_,_,hi=>by cases hi
theorem XW (pl:nD N ops F A):∀ (fuel:Nat) (D:Array Bool) (pre:List Nat) (t:OT) (σD σC:Fr) (s:S),pK P N ops F A K pre t D σD σC s→left ops D≤fuel→Xc P N ops K fuel D σD s
 | 0,D,pre,t, σD, σC,s,h,hf=>by
   have hr:Region.ready .any ops D=[]:=by
     cases hr:Region.ready .any ops D with
     | nil=>rfl
     | cons i r =>
       have hi:i∈Region.ready .any ops D:=by rw [hr];simp
       have hlt:=cZ hi
       have ho:ops[i]?=some ops[i]:=Array.getElem?_eq_getElem hlt
       have:=cK h.size hlt ((w9 h.size ho).1 hi).1
       omega
   exact ⟨hr,h.finish pl hr⟩
 | fuel+1,D,pre,t, σD, σC,s,h,hf=>by
   refine ⟨fun hr=>h.finish pl hr,fun i hi=>?_⟩
   obtain ⟨pre,t, σC,h,Vx⟩:=pK.advance pl t pre σC h
   have hlt:=cZ hi
   have ho:ops[i]?=some ops[i]:=Array.getElem?_eq_getElem hlt
   generalize ops[i]=o at ho
   obtain ⟨hnd,rz⟩:=(w9 h.size ho).1 hi
   have tC:=pl.nV h.closed i o ho rz
   have hsz:i<D.size:=by rw [h.size];exact hlt
   have hset:∀ j,dn (D.setIfInBounds i true) j↔(j=i∨dn D j):=fun j=>tY hsz
   have hleft:left ops (D.setIfInBounds i true)≤fuel:=by have:=cK h.size hlt hnd;omega
   have hclosed:Closed ops (D.setIfInBounds i true):=by
     intro j o' ho' hj e he hb
     rcases (hset j).1 hj with rfl | hj
     · rw [ho] at ho'; cases ho'
       exact (hset _).2 (.inr (rz e he hb))
     · exact (hset _).2 (.inr (h.closed j o' ho' hj e he hb))
   have hsame:yM σC σD (o.looksAt ops):=by
     intro t ht
     refine (h.agree t fun p hp hd o' ho' e=>hd ?_).symm
     exact tC p (pl.look p i o' o ho' ho (h.hpre p hp hd).1 t e ht)
   unfold nJ
   rw [ho]
   simp only
   by_cases Xe:i∈pre
   · obtain ⟨he, hst⟩ := h.hpre i Xe hnd
     have next:∀ v,KT σC o.dst v→Xc P N ops K fuel (D.setIfInBounds i true) (kP σD o.dst v) s:=by
       intro v hv
       refine XW pl fuel _ pre t _ σC s ⟨by simp [h.size],hclosed,h.lt,h.BZ,fun j hj hjp hd=>?_,fun p hp hd=>h.hpre p hp fun hd'=>hd ((hset p).2 (.inr hd')),fun d hd=>?_,h.ok,h.walk⟩ hleft
       · rcases (hset j).1 hd with rfl | hd
         · exact hjp Xe
         · exact h.hrest j hj hjp hd
       · by_cases e : o.dst = some d
         · rw [e] at hv ⊢
           rw [jZ]
           exact hv.symm
         · rw [xP e]
           refine h.agree d fun p hp hd' o' ho'=>?_
           by_cases epi:p=i
           · subst epi;rw [ho] at ho';cases ho';exact e
           · exact hd p hp (fun x=>((hset p).1 x).elim epi hd') o' ho'
     unfold Vy at hst
     rw [ho] at hst
     simp only at hst
     refine ⟨pl.LH i o ho,?_⟩
     rw [← je hsame]
     split at hst
     · rename_i e; rw [e]
       obtain ⟨v,hv,hat⟩:=hst
       exact hv.congr hsame _ (next v hat)
     · rename_i e;rw [e];exact next _ hst
     · exact hst.elim
   · have hih:i∈t.heads:=by
       rcases Vx with rfl | ⟨j,u,alt,rfl⟩
       · have := h.ok
         simp only [OT.Ko,List.all_eq_true,List.mem_range] at this
         exact (Xe (by have:=this i hlt;simpa using this)).elim
       · have := h.ok
         simp only [OT.Ko,Bool.not_true,Bool.false_or,Bool.and_eq_true,CF,List.all_eq_true,List.mem_range,Bool.or_eq_true] at this
         rcases this.1 i hlt with k | k | k
         · exact (Xe (by simpa using k)).elim
         · simpa [OT.heads] using k
         · obtain ⟨x, hx1, hx2⟩ := List.any_eq_true.1 k
           have hx3:x∈kJ A i:=by simpa using hx2
           obtain ⟨_,hxo,hxe,_,hxa⟩:=XV.pick h.walk h.ok (i:=x) (by simpa [OT.heads] using hx1)
           have hxn:x<ops.size:=by
             cases hox:ops[x]? with
             | none=>rw [hox] at hxo;exact hxo.elim
             | some _=>exact (Array.getElem?_eq_some_iff.1 hox).1
           have hxd:=tC x hx3
           rcases Classical.em (x∈pre) with hp | hp
           · exfalso
             have hok:=h.ok
             -- a head is not done already
             have hno:∀ {t:OT} {b:Bool},t.Ko ops.size F A b pre=true→x∈t.heads→x ∉ pre:=by
               intro t
               induction t with
               | ef j u alt _ ih2 =>
                 intro b hok hx
                 simp only [OT.Ko,Bool.and_eq_true,Bool.not_eq_true',decide_eq_true_eq] at hok
                 simp only [OT.heads] at hx
                 rcases List.mem_cons.1 hx with rfl | hx
                 · have:=hok.2.2.2.1;simpa using this
                 · exact ih2 hok.2.2.2.2.2.2 hx
               | _=>intro b _ hx;cases hx
             exact hno hok (by simpa [OT.heads] using hx1) hp
           · exact (h.hrest x hxn hp hxd).elim
     obtain ⟨u,hw,he,hok,hia⟩:=XV.pick h.walk h.ok hih
     rw [ho] at hw
     simp only at hw
     refine fP hw hsame fun v s' hk=>?_
     obtain ⟨hk1,hk2⟩:=hk
     refine XW pl fuel _ (i::pre) u _ (kP σC o.dst v) s' ⟨by simp [h.size],hclosed,fun p hp=>?_,fun p hp a ha=>?_,fun j hj hjp hd=>?_,fun p hp hd=>?_,fun d hd=>?_,hok,hk2⟩ hleft
     · rcases List.mem_cons.1 hp with rfl | hp
       · exact hlt
       · exact h.lt p hp
     · rcases List.mem_cons.1 hp with rfl | hp
       · exact List.mem_cons_of_mem _ (hia a ha)
       · exact List.mem_cons_of_mem _ (h.BZ p hp a ha)
     · rcases (hset j).1 hd with rfl | hd
       · exact hjp (by simp)
       · exact h.hrest j hj (fun x=>hjp (by simp [x])) hd
     · rcases List.mem_cons.1 hp with rfl | hp
       · exact (hd ((hset p).2 (.inl rfl))).elim
       · have hd' : ¬ dn D p := fun x => hd ((hset p).2 (.inr x))
         have hpe:=(h.hpre p hp hd').1
         refine ⟨hpe,hk1.get p ?_⟩
         unfold floats
         simp only [List.mem_filter,Bool.and_eq_true,Bool.not_eq_true',hpe,List.contains_eq_mem,decide_eq_false_iff_not,true_and]
         exact ⟨hp,fun x=>hd' (tC p x)⟩
     · by_cases e : o.dst = some d
       · rw [e,jZ,jZ]
       · rw [xP e, xP e]
         refine h.agree d fun p hp hd' o' ho'=>hd p (by simp [hp]) (fun x=>((hset p).1 x).elim (fun y=>Xe (y ▸ hp)) hd') o' ho'
end
def WQ (N:Nat) (ops:Array Oper) (F:List Nat) (A:List (List Nat)):Bool :=
 tH ops (fun i o=>aW N o&&((kJ A i).all (fun a=>o.after.toList.any fun e=>Region.binds .any e&&(e.on == a ||(kJ A e.on).contains a)) &&
   (o.after.toList.all (fun e => !Region.binds .any e || decide (e.on<i)) &&
   (jr F i || tH ops (fun j o'=>match o.dst with | none=>true | some d=>(i == j || o'.dst != some d)&&(!(o'.looksAt ops).contains d ||(kJ A j).contains i)))))) &&
 (List.range A.length).all fun i => !(kJ A i).contains i
theorem Vm {N:Nat} {ops:Array Oper} {F:List Nat} {A:List (List Nat)} (h:WQ N ops F A=true):nD N ops F A:=by
 simp only [WQ,Bool.and_eq_true] at h
 obtain ⟨h4,h5⟩:=h
 have each:∀ {i:Nat} {o:Oper},ops[i]?=some o→_:=fun {i o} ho=>yx h4 ho
 simp only [Bool.and_eq_true] at each
 refine ⟨fun i o ho=>(each ho).1,fun i o ho a ha=>?_,fun i o ho e he hb=>?_,fun i hi=>?_,fun i j o o' ho ho' he hij d hd=>?_,fun i j o o' ho ho' he d hd hl=>?_⟩
 · have := List.all_eq_true.1 (each ho).2.1 a ha
   simp only [List.any_eq_true,Bool.and_eq_true,Bool.or_eq_true,beq_iff_eq,List.contains_eq_mem,decide_eq_true_eq] at this
   obtain ⟨e,h1,h2,h3⟩:=this
   exact ⟨e,by simpa using h1,h2,h3⟩
 · have := List.all_eq_true.1 (each ho).2.2.1 e (by simpa using he)
   simpa [hb] using this
 · by_cases hlt : i < A.length
   · have := List.all_eq_true.1 h5 i (List.mem_range.2 hlt)
     simp at this
     exact this hi
   · unfold kJ at hi
     rw [List.getD_eq_getElem?_getD,List.getElem?_eq_none (by omega)] at hi
     cases hi
 · have h6 := (each ho).2.2.2
   rw [he,Bool.false_or] at h6
   have:=yx h6 ho'
   rw [hd] at this
   simp only [Bool.and_eq_true,Bool.or_eq_true,beq_iff_eq,bne_iff_ne] at this
   exact this.1.resolve_left hij
 · have h6 := (each ho).2.2.2
   rw [he,Bool.false_or] at h6
   have:=yx h6 ho'
   rw [hd] at this
   simp only [Bool.and_eq_true,Bool.or_eq_true,Bool.not_eq_true',List.contains_eq_mem,decide_eq_false_iff_not,decide_eq_true_eq] at this
   exact this.2.resolve_left (fun x=>x hl)
theorem wY.XY {P:Program} {N id:Nat} {ops:Array Oper} {Q:Exit→Fr→S→Prop} {σ : Fr} {s:S} (t:OT) (F:List Nat) (A:List (List Nat)) (hm:P.follows .mixedOrders=true) (hp:(WQ N ops F A&&t.Ko ops.size F A true [])=true)
   (h:XV P N ops F A (Q .normal) [] t σ s):wY P N (.region id ops true) Q σ s:=by
 rw [Bool.and_eq_true] at hp
 refine wY.drawn hm (XW (Vm hp.1) _ _ [] t σ σ s ⟨by simp,fun i o ho hd=>?_,fun p hp=>(nomatch hp),fun p hp=>(nomatch hp),fun i hi _ hd=>?_,fun p hp=>(nomatch hp),fun d _=>rfl,hp.2,h⟩ ?_)
 · unfold dn at hd
   by_cases hi:i<ops.size <;> simp [Array.getD_eq_getD_getElem?,hi] at hd
 · unfold dn at hd
   by_cases hi:i<ops.size <;> simp [Array.getD_eq_getD_getElem?,hi] at hd
 · unfold left
   exact Nat.le_trans (List.length_filter_le _ _) (by simp)
section
variable {P:Program} {N:Nat} {ops:Array Oper} {K:Kn→S→Prop} {L:Kn} {s:S} {F:List Nat} {A:List (List Nat)} {pre:List Nat} {t alt:OT}
variable {d:Nat} {ty:TypeId} {p:String} {a:Array Edge}
structure nG (P:Program) (N:Nat) (ops:Array Oper) (F:List Nat) (A:List (List Nat)) (K:Kn→S→Prop) (pre:List Nat) (t:OT) (L:Kn) (s:S):Prop where
 run:∀ σ,At L σ → XV P N ops F A (fun σ' s'=>∃ L',At L' σ'∧K L' s') pre t σ s
theorem Pb (h:nG P N ops F A K pre t L s):nG P N ops F A K pre t L s:=h
theorem WL.XY {id:Nat} {Q:Exit→Kn→S→Prop} (t:OT) (F:List Nat) (A:List (List Nat)) (hm:P.follows .mixedOrders=true) (hp:(WQ N ops F A&&t.Ko ops.size F A true [])=true) (h:nG P N ops F A (Q .normal) [] t L s):WL P N (.region id ops true) Q L s :=
 ⟨fun σ hσ => wY.XY t F A hm hp (h.run σ hσ)⟩
theorem nG.done (h:K L s):nG P N ops F A K pre .done L s:=⟨fun _ hσ => ⟨L,hσ,h⟩⟩
theorem nG.stop:nG P N ops F A K pre .stop L s:=⟨fun _ _=>trivial⟩
theorem nG.fl {i:Nat} {op:Op} {v:V} (ho:kK ops.toList i=some ⟨some d,op,ty,p,a,none⟩) (h:zk P op L s v) (hk:nG P N ops F A K (i::pre) t ((d,v)::L) s):nG P N ops F A K pre (.fl i t) L s:=by
 refine ⟨fun σ hσ => ?_⟩
 simp only [XV,u6 ho,xA]
 exact ⟨v,h.run σ hσ _ _ _ _ _,hk.run _ (hσ.cons d v)⟩
theorem nG.ef {i:Nat} {o:Oper} (ho:kK ops.toList i=some o) (hd:aW N o=true) (h:zq P N ops [o] (fun L' s'=>xR P ops L' s' (floats F A pre i)∧nG P N ops F A K (i::pre) t L' s') L s) (h2:nG P N ops F A K pre alt L s):nG P N ops F A K pre (.ef i t alt) L s:=by
 refine ⟨fun σ hσ => ?_⟩
 simp only [XV,u6 ho]
 refine ⟨?_,h2.run σ hσ⟩
 have h1:=h.run (by simp only [List.all_cons,List.all_nil,hd,Bool.and_self]) σ hσ
 obtain ⟨h2,h3⟩:=h1
 refine ⟨h2,?_⟩
 have key:∀ σ' s',Xa P N ops [] (fun σ' s'=>∃ L',At L' σ'∧(xR P ops L' s' (floats F A pre i)∧nG P N ops F A K (i::pre) t L' s')) σ' s'→Z6 P ops σ' s' (floats F A pre i)∧XV P N ops F A (fun σ' s'=>∃ L',At L' σ'∧K L' s') (i::pre) t σ' s':=by
   rintro σ' s' ⟨L',hat,hst,hw⟩
   exact ⟨hst.run hat,hw.run _ hat⟩
 split at h3
 · rename_i e
   rcases h3 with h3 | ⟨vs,R,hvs,hdo,hkk⟩
   case inr=>exact .inr ⟨vs,R,hvs,hdo,fun v s' hR=>key _ _ (hkk v s' hR)⟩
   refine .inl ?_
   unfold rE at h3 ⊢
   split at h3
   · rename_i e2
     unfold p8 at h3 ⊢
     split at h3
     · exact ⟨h3.1,h3.2.mono fun _ _ hk=>key _ _ hk⟩
     · exact h3.elim
   · rcases h3 with ⟨v, s', hv, hk⟩ | ⟨ps, v, hps, hv, hk⟩
     · exact .inl ⟨v,s',hv,key _ _ hk⟩
     · exact .inr ⟨ps,v,hps,hv,key _ _ hk⟩
   · rcases h3 with ⟨v, s', hv, hk⟩ | ⟨x, y, v, hx, hy, hv, hk⟩
     · exact .inl ⟨v,s',hv,key _ _ hk⟩
     · exact .inr ⟨x,y,v,hx,hy,hv,key _ _ hk⟩
   · split at h3
     · exact key _ _ h3
     · exact h3.elim
 · exact key _ _ h3
 · exact h3.elim
structure bE {α : Type} (LI : α → Kn) (HI : α → List BE) (I : α → Prop) (e:Exit) (L':Kn) (s':S):Prop where
 h:e = .normal∧∃ x t,I x∧qz (LI x) L'∧s'=t.ext []∧Hold t t.next (HI x)
theorem bE.of {α : Type} {LI : α → Kn} {HI : α → List BE} {I : α → Prop} {H:List BE} (x : α) (hL:qz (LI x) L) (hh:Hold s s.next H) (hS:zK H (HI x)) (hI:I x):bE LI HI I .normal L (s.ext []):=⟨rfl,x,s,hI,hL,rfl,hh.sel hS⟩
theorem WL.YP {α : Type} {c:Code} {Q:Exit→Kn→S→Prop} (LI : α → Kn) (HI : α → List BE) (I : α → Prop) (h:WL P N c (bE LI HI I) L s) (k:∀ (x : α) (t:S),I x→Hold t t.next (HI x)→Q .normal (LI x) (t.ext [])):WL P N c Q L s:=by
 refine ⟨fun σ hσ => (h.run σ hσ).mono ?_⟩
 rintro e σ' s' ⟨L',hat',⟨⟨rfl,x,t,hI,hsub,rfl,hh⟩⟩⟩
 exact ⟨LI x,hsub.at hat',k x t hI hh⟩
end
end Go.Proofs.YtolhegocbkckdaaGreat

namespace Go.Proofs.YtolhegocbkckdaaGreat
open Go
section
variable {P:Program} {N:Nat} {ops:Array Oper} {l:List Oper} {K:Kn→S→Prop} {L:Kn} {s:S} {tt:BT} {d:Nat} {ty:TypeId} {p:String} {a:Array Edge} {H:List BE}
theorem zq.Na (ht:tt.ok P) {T U e:TypeId} {t te:Ty} {x y:Operand} {vs ZN:List V} {u w:V} {H2:List BE} (hx:jf L x=some u) (hu:Zq u=true) (hy:jf L y=some w)
   (hT:tt.get T=some t) (hkd:t.kd = .slice e) (hte:tt.get e=some te) (hz:(Nat.beq te.zero.length te.size&&Nat.blt 0 te.size)=true) (hU:Nat.beq U T=true) (hh:Hold s s.next H)
   (hc:wL H w vs ZN H2) (hall:zS te vs) (hb:xU vs.length te.bytes)
   (hk:∀ (s':S) (n:Nat),Hold s' s'.next (.acc n te.size vs ZN::H2)→zq P N ops l K ((d,.sl n vs)::L) (s'.ext [])):zq P N ops (⟨some d,jQ x y #[T,U],ty,p,a,none⟩::l) K L (s.ext []):=by
 simp only [Bool.and_eq_true] at hz
 have Vv:=Nat.eq_of_beq_eq_true hU
 subst Vv
 have hels:∀ v∈vs,v.cells.length=te.size:=fun v hv=>by
   unfold zS at hall
   have:=List.all_eq_true.1 hall v hv
   rw [Bool.and_eq_true,decide_eq_true_eq] at this
   exact this.1
 obtain ⟨ls,h1,h2,h3⟩:=hh.ex
 obtain ⟨hw,b2,l2,m1,m2,m3⟩:=hc.sound h1
 have hnd:=m3.1 h2
 have hlt:∀ p∈b2++l2,p.2<s.next:=fun p hp=>h3 p (m3.2 p hp)
 have hnew:Hold (s.ext [.fam vs.length te.size]) (s.ext [.fam vs.length te.size]).next (.acc s.next te.size vs ZN::H2):=by
   refine ⟨(b2++[(false,s.next)])++l2,.cons ⟨b2,rfl,m1.congr fun p hp => .lt (hlt p (List.mem_append_left _ hp)),by rw [cu];rfl,m1.sizes hels⟩ (m2.congr (by rw [q8];omega) fun p hp => .lt (hlt p (List.mem_append_right _ hp))),?_,fun p hp=>?_⟩
   · have hr:j4 ((b2++[(false,s.next)])++l2) ([(false,s.next)]++(b2++l2)):=by
       rw [← List.append_assoc]
       exact (j4.comm b2 _).app (j4.refl l2)
     refine hr.1 ?_
     rw [List.singleton_append,List.nodup_cons]
     exact ⟨fun hm=>by have:=hlt _ hm;simp at this,hnd⟩
   · rw [q8]
     simp only [List.mem_append,List.mem_singleton] at hp
     rcases hp with (hp | rfl) | hp
     · have:=hlt p (List.mem_append_left _ hp);simp only [List.length_singleton];omega
     · simp
     · have:=hlt p (List.mem_append_right _ hp);simp only [List.length_singleton];omega
 refine .st (v := .sl s.next vs) (s':=(s.ext [.fam vs.length te.size]).ext []) (fun σ hσ => ?_) (hk _ _ hnew)
 simp only [jQ,vU,uh,qd hσ hx,qd hσ hy,j3,y7,ht.get hT,hkd,ht.get hte,yN hw,Option.bind_some,Option.map_some,if_true]
 rw [if_pos ⟨Nat.eq_of_beq_eq_true hz.1,by simpa using hz.2,hall⟩]
 have hk:u = .jo∨u = .zl:=by
   unfold Zq at hu
   split at hu
   · exact .inl rfl
   · exact .inr rfl
   · cases hu
 rcases hk with rfl | rfl
 all_goals
   simp only
   rw [if_pos ⟨hb.1,hb.2⟩,wH,List.nil_append,jE]
   rfl
end
theorem zk.Zb {P:Program} {L:Kn} {s:S} {tt:BT} (ht:tt.ok P) {T e:TypeId} {t te:Ty} {m:Nat} {parts:Array (Nat × Operand)} {ps:List (Nat × V)} {vs:List V} (hp:mJ L parts.toList=some ps) (hT:tt.get T=some t) (hkd:t.kd = .slice e) (hte:tt.get e=some te)
   (hz:(Nat.beq te.zero.length te.size&&Nat.blt 0 te.size&&Nat.ble (m*te.size) 16777216)=true) (Ut:Xh 0 ps=some vs) (hlen:Nat.beq vs.length m=true) (hm:Nat.beq m 0=false) (hel:jM te vs):zk P (.buildSlice T m parts) L s (.sl 0 vs):=by
 simp only [Bool.and_eq_true] at hz
 have hm':vs.length=m:=Nat.eq_of_beq_eq_true hlen
 have h0:¬ m=0:=fun e=>by rw [e] at hm;cases hm
 have hz1:te.zero.length=te.size:=Nat.eq_of_beq_eq_true hz.1.1
 have hz2:0<te.size:=by simpa using hz.1.2
 have hz3:m*te.size≤16777216:=Nat.le_of_ble_eq_true hz.2
 have hcl:∀ v∈vs,v.cells.length=te.size:=fun v hv=>(hel v hv).1
 have hf:∀ v∈vs,v.fits te.agg=true:=fun v hv=>(hel v hv).2
 have gy:=aQ (n:=m) hz1 (us:=[]) (by simpa using Ut) (by simpa using hcl) (by simp;omega)
 rw [List.nil_append,wS hm',aY] at gy
 have hsz1:te.agg=false→te.size=1:=fun hag=>by
   cases vs with
   | nil=>exact absurd hm'.symm h0
   | cons v r =>
     obtain ⟨h1,h2⟩:=hel v (by simp)
     rw [← h1]
     rw [hag] at h2
     cases v <;> simp_all [V.fits,V.cells,V.one]
 have hck:=aU hz2 hcl hf
 rw [hm'] at hck
 have hb:ku P T m ps s=some (.sl s.next vs,s.kL m te.size):=by
   simp only [ku,ht.get hT,hkd,ht.get hte,Option.bind_some]
   rw [if_pos ⟨hz1,hz2,hz3⟩,gy]
   simp only [Option.bind_some]
   rw [if_neg h0,if_pos (uR hf hsz1),hck]
 refine ⟨fun σ hσ dst ty p a g K hk=>?_⟩
 refine .inl ?_
 unfold rE
 exact .inr ⟨ps,.sl 0 vs,dO hσ hp,by simp only [Uc,hb],hk⟩
theorem zk.Gm {P:Program} {L:Kn} {s:S} {tt:BT} (ht:tt.ok P) {T e:TypeId} {t te:Ty} {parts:Array (Nat × Operand)} (hp:parts.toList=[]) (hT:tt.get T=some t) (hkd:t.kd = .slice e) (hte:tt.get e=some te) (hz:(Nat.beq te.zero.length te.size&&Nat.blt 0 te.size)=true) :
   zk P (.buildSlice T 0 parts) L s .jo :=
 .of fun σ hσ _ _ _ _ _=>by
   simp only [Bool.and_eq_true] at hz
   simp only [vU,hp,yh,ku,ht.get hT,hkd,ht.get hte,Option.bind_some]
   rw [if_pos ⟨Nat.eq_of_beq_eq_true hz.1,by simpa using hz.2,by omega⟩]
   simp [yg]
inductive Fills (fs:List vT):List V→List (Nat × V)→List V→Prop
 | nil {cells}:Fills fs cells [] cells
 | cons {cells cells' r vs i v rest f}:kK fs i=some f→yt v=some vs→Nat.beq vs.length f.size=true→Z5 cells f.off vs=some cells'→Fills fs cells' rest r→Fills fs cells ((i,v)::rest) r
theorem Fills.eq {fs:List vT} {cells:List V} {ps:List (Nat × V)} {r:List V} (h:Fills fs cells ps r):yg (aV fs) cells ps=some r:=by
 induction h with
 | nil=>rfl
 | cons h1 h2 h3 h4 _ ih =>
   obtain ⟨e1,e2⟩:=iX h4
   have e3:=Nat.eq_of_beq_eq_true h3
   have e4:=vG h2
   unfold yg
   simp only [aV,kF h1,Option.map_some,Option.bind_some]
   rw [if_pos ⟨by rw [e4];exact e3,by rw [← e3];exact e2⟩,e4, ← e1]
   exact ih
theorem zk.U4 {P:Program} {L:Kn} {s:S} {tt:BT} (ht:tt.ok P) {T:TypeId} {sz b:Nat} {g:Bool} {zero cs:List V} {fs:List vT} {parts:Array (Nat × Operand)} {ps:List (Nat × V)} (hT:tt.get T=some ⟨sz,b,zero,.struct fs g⟩)
   (hz:(Nat.beq zero.length sz&&Nat.blt 0 sz)=true) (hp:mJ L parts.toList=some ps) (hf:Fills fs zero ps cs):zk P (.build T parts) L s (.agg cs) :=
 .of fun σ hσ _ _ _ _ _=>by
   simp only [Bool.and_eq_true] at hz
   simp only [vU,dO hσ hp,oN,ht.get hT,Option.bind_some]
   rw [if_pos ⟨Nat.eq_of_beq_eq_true hz.1,by simpa using hz.2⟩,hf.eq]
   rfl
theorem Hold.Gn {s:S} {H:List BE} {b n:Nat} {d d':V} (h:Hold s b (.blk n d::H)) (hc:cv d'=cv d) (hp:d'.plain=true) (ht:(kH n d').2=(kH n d).2):Hold s b (.blk n d'::H):=by
 obtain ⟨ls,h1,h2,h3⟩:=h.ex
 refine ⟨ls,?_,h2,h3⟩
 cases h1 with
 | cons k1 k2 =>
   obtain ⟨e1,e2,e3,e4⟩:=k1
   exact .cons ⟨by rw [e1,hc],hp,by rw [ht];exact e3,by rw [hc];exact e4⟩ k2
end Go.Proofs.YtolhegocbkckdaaGreat
