/-
  Drawn regions in which some effects may come in several orders: a tree of orders, walked.
  Further rules over the books: appends to a slice of nothing, slice literals of what lies in variables, a row with one more cell.
  Own work; no condition.
-/
import Derived.Test.YtikghanejpigjaaMg10
namespace Go.Proofs.Ytikghanejpigjaa
open Go
inductive OT where
 | done
 | stop
 | fl (i:Nat) (t:OT)
 | ef (i:Nat) (t alt:OT)
def OT.heads:OT→List Nat
 | .ef i _ alt=>i::alt.heads
 | _=>[]
def VDt (P:Program) (N:Nat) (ops:Array Oper) (F:List Nat) (A:List (List Nat)) (K:Fr→S→Prop):List Nat→OT→Fr→S→Prop
 | _,.done, σ,s=>K σ s
 | _,.stop,_,_=>True
 | pre,.fl i t, σ,s =>
   match ops[i]? with
   | none=>False
   | some o=>match vwanted ops σ o with
       | some true=>∃ v,VAns P o σ s v∧VDt P N ops F A K (i::pre) t (putO σ o.dst v) s
       | some false=>VDt P N ops F A K (i::pre) t (putO σ o.dst .und) s
       | none=>False
 | pre,.ef i t alt, σ,s =>
   (match ops[i]? with
   | none=>False
   | some o=>VStep P N ops o (fun σ' s'=>VSts P ops σ' s' (floats F A pre i)∧VDt P N ops F A K (i::pre) t σ' s') σ s)∧VDt P N ops F A K pre alt σ s
def subB (l m:List Nat):Bool:=l.all fun x=>m.contains x
def fullB (n:Nat) (A:List (List Nat)) (pre hs:List Nat):Bool:=(List.range n).all fun r=>pre.contains r ||(hs.contains r || hs.any fun x=>(ancOf A r).contains x)
def OT.okT (n:Nat) (F:List Nat) (A:List (List Nat)):Bool→List Nat→OT→Bool
 | _,pre,.done=>(List.range n).all fun i=>pre.contains i
 | top,_,.stop => !top
 | top,pre,.fl i t=>top&&(!effOf F i&&(decide (i<n)&&(!pre.contains i&&(subB (ancOf A i) pre&&t.okT n F A true (i::pre)))))
 | top,pre,.ef i t alt=>(!top || fullB n A pre (i::alt.heads))&&(effOf F i&&(decide (i<n)&&(!pre.contains i&&(subB (ancOf A i) pre&&(t.okT n F A true (i::pre)&&alt.okT n F A false pre)))))
structure PlanS (N:Nat) (ops:Array Oper) (F:List Nat) (A:List (List Nat)):Prop where
 dok:∀ (i:Nat) (o:Oper),ops[i]?=some o→dstOk N o=true
 anc:∀ (i:Nat) (o:Oper),ops[i]?=some o→∀ a∈ancOf A i,∃ e∈o.after,Region.binds .any e=true∧(e.on=a∨a∈ancOf A e.on)
 lt:∀ (i:Nat) (o:Oper),ops[i]?=some o→∀ e∈o.after,Region.binds .any e=true→e.on<i
 irr:∀ i,i ∉ ancOf A i
 dst:∀ (i j:Nat) (o o':Oper),ops[i]?=some o→ops[j]?=some o'→effOf F i=false→i≠j→∀ d,o.dst=some d→o'.dst≠some d
 look:∀ (i j:Nat) (o o':Oper),ops[i]?=some o→ops[j]?=some o'→effOf F i=false→∀ d,o.dst=some d→d∈o'.looksAt ops→i∈ancOf A j
theorem PlanS.anc_done {N:Nat} {ops:Array Oper} {F:List Nat} {A:List (List Nat)} (pl:PlanS N ops F A) {D:Array Bool} (hc:Closed ops D):∀ (i:Nat) (o:Oper),ops[i]?=some o →
   (∀ e∈o.after,Region.binds .any e=true→dn D e.on)→∀ a∈ancOf A i,dn D a:=by
 intro i
 induction i using Nat.strongRecOn with
 | ind i ih =>
   intro o ho he a ha
   obtain ⟨e,h1,h2,h3⟩:=pl.anc i o ho a ha
   have hd:=he e h1 h2
   rcases h3 with rfl | h3
   · exact hd
   · have hlt := pl.lt i o ho e h1 h2
     have hs:i<ops.size:=(Array.getElem?_eq_some_iff.1 ho).1
     have ho':ops[e.on]?=some ops[e.on]:=Array.getElem?_eq_getElem (by omega)
     exact ih e.on hlt _ ho' (hc _ _ ho' hd) a h3
theorem PlanS.all_done {N:Nat} {ops:Array Oper} {F:List Nat} {A:List (List Nat)} (pl:PlanS N ops F A) {D:Array Bool} (hs:D.size=ops.size) (hr:Region.ready .any ops D=[]):∀ i,i<ops.size→dn D i:=by
 intro i
 induction i using Nat.strongRecOn with
 | ind i ih =>
   intro hi
   have ho:ops[i]?=some ops[i]:=Array.getElem?_eq_getElem hi
   by_cases hd:dn D i
   · exact hd
   · have:i∈Region.ready .any ops D:=(ready_iff hs ho).2 ⟨hd,fun e he hb=>by
       have:=pl.lt i _ ho e he hb
       exact ih _ this (by omega)⟩
     rw [hr] at this
     cases this
structure InvO (P:Program) (N:Nat) (ops:Array Oper) (F:List Nat) (A:List (List Nat)) (K:Fr→S→Prop) (pre:List Nat) (t:OT) (D:Array Bool) (σD σC:Fr) (s:S):Prop where
 size:D.size=ops.size
 closed:Closed ops D
 lt:∀ p∈pre,p<ops.size
 ancs:∀ p∈pre,∀ a∈ancOf A p,a∈pre
 hrest:∀ i,i<ops.size→i ∉ pre→¬ dn D i
 hpre:∀ p∈pre,¬ dn D p→effOf F p=false∧VSt P ops p σC s
 agree:∀ d,(∀ p∈pre,¬ dn D p→∀ o,ops[p]?=some o→o.dst≠some d) → σD d = σC d
 ok:t.okT ops.size F A true pre=true
 walk:VDt P N ops F A K pre t σC s
section
variable {P:Program} {N:Nat} {ops:Array Oper} {F:List Nat} {A:List (List Nat)} {K:Fr→S→Prop}
theorem subB_eq {l m:List Nat} (h:subB l m=true):∀ a∈l,a∈m:=fun a ha=>by
 have:=List.all_eq_true.1 h a ha
 simpa using this
theorem okT_fl {n i:Nat} {pre:List Nat} {t:OT} (h:(OT.fl i t).okT n F A true pre=true):effOf F i=false∧i<n∧i ∉ pre∧(∀ a∈ancOf A i,a∈pre)∧t.okT n F A true (i::pre)=true:=by
 simp only [OT.okT,Bool.true_and,Bool.and_eq_true,Bool.not_eq_true',decide_eq_true_eq] at h
 exact ⟨h.1,h.2.1,by have:=h.2.2.1;simpa using this,subB_eq h.2.2.2.1,h.2.2.2.2⟩
theorem InvO.float {pre:List Nat} {i:Nat} {t:OT} {o:Oper} {v:V} {D:Array Bool} {σD σC:Fr} {s:S} (pl:PlanS N ops F A) (h:InvO P N ops F A K pre (.fl i t) D σD σC s) (ho:ops[i]?=some o)
   (hst:(match vwanted ops σC o with | some true=>VAns P o σC s v | some false=>v = .und | none=>False)) (hw:VDt P N ops F A K (i::pre) t (putO σC o.dst v) s):InvO P N ops F A K (i::pre) t D σD (putO σC o.dst v) s:=by
 obtain ⟨he,hi,hip,hia,hok⟩:=okT_fl h.ok
 have hnd:¬ dn D i:=h.hrest i hi hip
 have hsame:∀ p o',ops[p]?=some o'→i ∉ ancOf A p→SameAt σC (putO σC o.dst v) (o'.looksAt ops):=by
   intro p o' hp' hn t ht
   refine (putO_other fun e=>hn ?_).symm
   exact pl.look i p o o' ho hp' he t e ht
 refine ⟨h.size,h.closed,fun p hp=>?_,fun p hp a ha=>?_,fun j hj hjp=>h.hrest j hj fun x=>hjp (by simp [x]),fun p hp hd=>?_,fun d hd=>?_,hok,hw⟩
 · rcases List.mem_cons.1 hp with rfl | hp
   · exact hi
   · exact h.lt p hp
 · rcases List.mem_cons.1 hp with rfl | hp
   · exact List.mem_cons_of_mem _ (hia a ha)
   · exact List.mem_cons_of_mem _ (h.ancs p hp a ha)
 · rcases List.mem_cons.1 hp with rfl | hp
   · refine ⟨he, ?_⟩
     have hs:=hsame p o ho (pl.irr p)
     unfold VSt
     rw [ho]
     simp only
     rw [← vwanted_congr hs]
     have hat:atO (putO σC o.dst v) o.dst v:=by
       cases e:o.dst with
       | none=>trivial
       | some d=>exact putO_same
     split at hst
     · rename_i e;rw [e];exact ⟨v,hst.congr hs,hat⟩
     · rename_i e;rw [e];subst hst;exact hat
     · exact hst.elim
   · obtain ⟨k1, k2⟩ := h.hpre p hp hd
     refine ⟨k1,?_⟩
     have hpi:i ∉ ancOf A p:=fun x=>hip (h.ancs p hp i x)
     have hpo:∃ o',ops[p]?=some o':=⟨_,Array.getElem?_eq_getElem (h.lt p hp)⟩
     obtain ⟨o',ho'⟩:=hpo
     refine st_congr k2 ho' (hsame p o' ho' hpi) fun d hd'=>putO_other fun e=>?_
     exact pl.dst i p o o' ho ho' he (fun x=>hip (x ▸ hp)) d e hd'
 · rw [putO_other (hd i (by simp) hnd o ho)]
   exact h.agree d fun p hp=>hd p (by simp [hp])
theorem InvO.advance (pl:PlanS N ops F A) {D:Array Bool} {σD:Fr} {s:S}:∀ (t:OT) (pre:List Nat) (σC:Fr),InvO P N ops F A K pre t D σD σC s →
   ∃ pre' t' σC',InvO P N ops F A K pre' t' D σD σC' s∧(t' = .done∨∃ i u alt,t' = .ef i u alt)
 | .done,pre, σC,h=>⟨pre,.done, σC,h,.inl rfl⟩
 | .stop,pre, σC,h=>by have:=h.ok;simp [OT.okT] at this
 | .ef i u alt,pre, σC,h=>⟨pre,_, σC,h,.inr ⟨i,u,alt,rfl⟩⟩
 | .fl i t,pre, σC,h=>by
   have hw:=h.walk
   unfold VDt at hw
   cases ho:ops[i]? with
   | none=>rw [ho] at hw;exact hw.elim
   | some o =>
     rw [ho] at hw
     simp only at hw
     cases hv:vwanted ops σC o with
     | none=>rw [hv] at hw;exact hw.elim
     | some b =>
       rw [hv] at hw
       cases b with
       | true =>
         obtain ⟨v,hvop,hw⟩:=hw
         exact InvO.advance pl t (i::pre) _ (h.float pl ho (by rw [hv];exact hvop) hw)
       | false=>exact InvO.advance pl t (i::pre) _ (h.float pl ho (by rw [hv]) hw)
theorem InvO.finish (pl:PlanS N ops F A) {pre:List Nat} {t:OT} {D:Array Bool} {σD σC:Fr} {s:S} (h:InvO P N ops F A K pre t D σD σC s) (hr:Region.ready .any ops D=[]):K σD s:=by
 have hall:=pl.all_done h.size hr
 have hin:∀ i,i<ops.size→i∈pre:=fun i hi=>by
   rcases Classical.em (i∈pre) with hp | hp
   · exact hp
   · exact (h.hrest i hi hp (hall i hi)).elim
 obtain ⟨pre2,t2, σ2,h2,hadv⟩:=InvO.advance pl t pre σC h
 have hin2:∀ i,i<ops.size→i∈pre2:=fun i hi=>by
   rcases Classical.em (i∈pre2) with hp | hp
   · exact hp
   · exact (h2.hrest i hi hp (hall i hi)).elim
 rcases hadv with rfl | ⟨i,u,alt,rfl⟩
 · have hw := h2.walk
   have : σD = σ2:=funext fun d=>h2.agree d fun p hp hd=>(hd (hall p (h2.lt p hp))).elim
   rw [this]
   exact hw
 · have := h2.ok
   simp only [OT.okT,Bool.and_eq_true,Bool.not_eq_true',decide_eq_true_eq] at this
   have h3:=this.2.2.2.1
   have h4:=hin2 i this.2.2.1
   simp [h4] at h3
end
section
variable {P:Program} {N:Nat} {ops:Array Oper} {K:Kn→S→Prop} {L:Kn} {s:S} {F:List Nat} {A:List (List Nat)} {pre:List Nat} {t alt:OT}
variable {d:Nat} {ty:TypeId} {p:String} {a:Array Edge}
structure LDt (P:Program) (N:Nat) (ops:Array Oper) (F:List Nat) (A:List (List Nat)) (K:Kn→S→Prop) (pre:List Nat) (t:OT) (L:Kn) (s:S):Prop where
 run:∀ σ,At L σ → VDt P N ops F A (fun σ' s'=>∃ L',At L' σ'∧K L' s') pre t σ s
theorem kDt (h:LDt P N ops F A K pre t L s):LDt P N ops F A K pre t L s:=h
theorem LDt.done (h:K L s):LDt P N ops F A K pre .done L s:=⟨fun _ hσ => ⟨L,hσ,h⟩⟩
theorem LDt.stop:LDt P N ops F A K pre .stop L s:=⟨fun _ _=>trivial⟩
structure CutH {α : Type} (LI : α → Kn) (HI : α → List BE) (I : α → Prop) (e:Exit) (L':Kn) (s':S):Prop where
 h:e = .normal∧∃ x t,I x∧SubL (LI x) L'∧s'=t.ext []∧Hold t t.next (HI x)
theorem CutH.of {α : Type} {LI : α → Kn} {HI : α → List BE} {I : α → Prop} {H:List BE} (x : α) (hL:SubL (LI x) L) (hh:Hold s s.next H) (hS:Sel H (HI x)) (hI:I x):CutH LI HI I .normal L (s.ext []):=⟨rfl,x,s,hI,hL,rfl,hh.sel hS⟩
theorem WL.cutH {α : Type} {c:Code} {Q:Exit→Kn→S→Prop} (LI : α → Kn) (HI : α → List BE) (I : α → Prop) (h:WL P N c (CutH LI HI I) L s) (k:∀ (x : α) (t:S),I x→Hold t t.next (HI x)→Q .normal (LI x) (t.ext [])):WL P N c Q L s:=by
 refine ⟨fun σ hσ => (h.run σ hσ).mono ?_⟩
 rintro e σ' s' ⟨L',hat',⟨⟨rfl,x,t,hI,hsub,rfl,hh⟩⟩⟩
 exact ⟨LI x,hsub.at hat',k x t hI hh⟩
end
end Go.Proofs.Ytikghanejpigjaa

namespace Go.Proofs.Ytikghanejpigjaa
open Go
section
variable {P:Program} {N:Nat} {ops:Array Oper} {l:List Oper} {K:Kn→S→Prop} {L:Kn} {s:S} {tt:BT} {d:Nat} {ty:TypeId} {p:String} {a:Array Edge} {H:List BE}
theorem LOps.appZ (ht:tt.ok P) {T U e:TypeId} {t te:Ty} {x y:Operand} {vs ds2:List V} {u w:V} {H2:List BE} (hx:opd L x=some u) (hu:nilO u=true) (hy:opd L y=some w)
   (hT:tt.get T=some t) (hkd:t.kd = .slice e) (hte:tt.get e=some te) (hz:(Nat.beq te.zero.length te.size&&Nat.blt 0 te.size)=true) (hU:Nat.beq U T=true) (hh:Hold s s.next H)
   (hc:ConsSp H w vs ds2 H2) (hall:Elems te vs) (hb:AppB vs.length te.bytes)
   (hk:∀ (s':S) (n:Nat),Hold s' s'.next (.acc n te.size vs ds2::H2)→LOps P N ops l K ((d,.sl n vs)::L) (s'.ext [])):LOps P N ops (⟨some d,appCall x y #[T,U],ty,p,a,none⟩::l) K L (s.ext []):=by
 simp only [Bool.and_eq_true] at hz
 have hU':=Nat.eq_of_beq_eq_true hU
 subst hU'
 have hels:∀ v∈vs,v.cells.length=te.size:=fun v hv=>by
   unfold Elems at hall
   have:=List.all_eq_true.1 hall v hv
   rw [Bool.and_eq_true,decide_eq_true_eq] at this
   exact this.1
 obtain ⟨ls,h1,h2,h3⟩:=hh.ex
 obtain ⟨hw,b2,l2,m1,m2,m3⟩:=hc.sound h1
 have hnd:=m3.1 h2
 have hlt:∀ p∈b2++l2,p.2<s.next:=fun p hp=>h3 p (m3.2 p hp)
 have hnew:Hold (s.ext [.fam vs.length te.size]) (s.ext [.fam vs.length te.size]).next (.acc s.next te.size vs ds2::H2):=by
   refine ⟨(b2++[(false,s.next)])++l2,.cons ⟨b2,rfl,m1.congr fun p hp => .lt (hlt p (List.mem_append_left _ hp)),by rw [ext_fams0];rfl,m1.sizes hels⟩ (m2.congr (by rw [ext_next];omega) fun p hp => .lt (hlt p (List.mem_append_right _ hp))),?_,fun p hp=>?_⟩
   · have hr:LeL ((b2++[(false,s.next)])++l2) ([(false,s.next)]++(b2++l2)):=by
       rw [← List.append_assoc]
       exact (LeL.comm b2 _).app (LeL.refl l2)
     refine hr.1 ?_
     rw [List.singleton_append,List.nodup_cons]
     exact ⟨fun hm=>by have:=hlt _ hm;simp at this,hnd⟩
   · rw [ext_next]
     simp only [List.mem_append,List.mem_singleton] at hp
     rcases hp with (hp | rfl) | hp
     · have:=hlt p (List.mem_append_left _ hp);simp only [List.length_singleton];omega
     · simp
     · have:=hlt p (List.mem_append_right _ hp);simp only [List.length_singleton];omega
 refine .st (v := .sl s.next vs) (s':=(s.ext [.fam vs.length te.size]).ext []) (fun σ hσ => ?_) (hk _ _ hnew)
 simp only [appCall,vop,vevL,opd_eq hσ hx,opd_eq hσ hy,vbuiltin,vappend,ht.get hT,hkd,ht.get hte,spreadO_eq hw,Option.bind_some,Option.map_some,if_true]
 rw [if_pos ⟨Nat.eq_of_beq_eq_true hz.1,by simpa using hz.2,hall⟩]
 have hk:u = .zsl∨u = .nilsl:=by
   unfold nilO at hu
   split at hu
   · exact .inl rfl
   · exact .inr rfl
   · cases hu
 rcases hk with rfl | rfl
 all_goals
   simp only
   rw [if_pos ⟨hb.1,hb.2⟩,ext_newFam,List.nil_append,ext_ext_nil]
   rfl
end
theorem AnsL.bslE {P:Program} {L:Kn} {s:S} {tt:BT} (ht:tt.ok P) {T e:TypeId} {t te:Ty} {m:Nat} {parts:Array (Nat × Operand)} {ps:List (Nat × V)} {vs:List V} (hp:opdP L parts.toList=some ps) (hT:tt.get T=some t) (hkd:t.kd = .slice e) (hte:tt.get e=some te)
   (hz:(Nat.beq te.zero.length te.size&&Nat.blt 0 te.size&&Nat.ble (m*te.size) 16777216)=true) (hsq:seqO 0 ps=some vs) (hlen:Nat.beq vs.length m=true) (hm:Nat.beq m 0=false) (hel:ElsH te vs):AnsL P (.buildSlice T m parts) L s (.sl 0 vs):=by
 simp only [Bool.and_eq_true] at hz
 have hm':vs.length=m:=Nat.eq_of_beq_eq_true hlen
 have h0:¬ m=0:=fun e=>by rw [e] at hm;cases hm
 have hz1:te.zero.length=te.size:=Nat.eq_of_beq_eq_true hz.1.1
 have hz2:0<te.size:=by simpa using hz.1.2
 have hz3:m*te.size≤16777216:=Nat.le_of_ble_eq_true hz.2
 have hcl:∀ v∈vs,v.cells.length=te.size:=fun v hv=>(hel v hv).1
 have hf:∀ v∈vs,v.fits te.agg=true:=fun v hv=>(hel v hv).2
 have hfill:=vfill_seq (n:=m) hz1 (us:=[]) (by simpa using hsq) (by simpa using hcl) (by simp;omega)
 rw [List.nil_append,filled_full hm',filled_nil] at hfill
 have hsz1:te.agg=false→te.size=1:=fun hag=>by
   cases vs with
   | nil=>exact absurd hm'.symm h0
   | cons v r =>
     obtain ⟨h1,h2⟩:=hel v (by simp)
     rw [← h1]
     rw [hag] at h2
     cases v <;> simp_all [V.fits,V.cells,V.one]
 have hck:=chunk_flat hz2 hcl hf
 rw [hm'] at hck
 have hb:vbuildSlice P T m ps s=some (.sl s.next vs,s.newFam m te.size):=by
   simp only [vbuildSlice,ht.get hT,hkd,ht.get hte,Option.bind_some]
   rw [if_pos ⟨hz1,hz2,hz3⟩,hfill]
   simp only [Option.bind_some]
   rw [if_neg h0,if_pos (chunkOk_flat hf hsz1),hck]
 refine ⟨fun σ hσ dst ty p a g K hk=>?_⟩
 refine .inl ?_
 unfold VOp0
 exact .inr ⟨ps,.sl 0 vs,opdP_eq hσ hp,by simp only [vbsF,hb],hk⟩
theorem AnsL.bslZ {P:Program} {L:Kn} {s:S} {tt:BT} (ht:tt.ok P) {T e:TypeId} {t te:Ty} {parts:Array (Nat × Operand)} (hp:parts.toList=[]) (hT:tt.get T=some t) (hkd:t.kd = .slice e) (hte:tt.get e=some te) (hz:(Nat.beq te.zero.length te.size&&Nat.blt 0 te.size)=true) :
   AnsL P (.buildSlice T 0 parts) L s .zsl :=
 .of fun σ hσ _ _ _ _ _=>by
   simp only [Bool.and_eq_true] at hz
   simp only [vop,hp,vparts,vbuildSlice,ht.get hT,hkd,ht.get hte,Option.bind_some]
   rw [if_pos ⟨Nat.eq_of_beq_eq_true hz.1,by simpa using hz.2,by omega⟩]
   simp [vfill]
inductive Fills (fs:List FieldI):List V→List (Nat × V)→List V→Prop
 | nil {cells}:Fills fs cells [] cells
 | cons {cells cells' r vs i v rest f}:nthO fs i=some f→cellsO v=some vs→Nat.beq vs.length f.size=true→splO cells f.off vs=some cells'→Fills fs cells' rest r→Fills fs cells ((i,v)::rest) r
theorem Fills.eq {fs:List FieldI} {cells:List V} {ps:List (Nat × V)} {r:List V} (h:Fills fs cells ps r):vfill (placeS fs) cells ps=some r:=by
 induction h with
 | nil=>rfl
 | cons h1 h2 h3 h4 _ ih =>
   obtain ⟨e1,e2⟩:=splO_eq h4
   have e3:=Nat.eq_of_beq_eq_true h3
   have e4:=cellsO_eq h2
   unfold vfill
   simp only [placeS,nthO_eq h1,Option.map_some,Option.bind_some]
   rw [if_pos ⟨by rw [e4];exact e3,by rw [← e3];exact e2⟩,e4, ← e1]
   exact ih
end Go.Proofs.Ytikghanejpigjaa
