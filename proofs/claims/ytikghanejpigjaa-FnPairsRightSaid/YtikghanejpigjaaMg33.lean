/-
  References that lead out of a plan's tree, and all references of plans, of the program and of the reference. Printed by a program of our own; no condition.
  The reference's references that lead out of a tree: results that are appended to the caller's slice, over the books.
  A variable's cells, given up between two regions: from there on they are plain. An empty slice as the first argument.
  Parts of a slice whose elements are known.
  Own work; no condition.
-/
import Derived.Test.YtikghanejpigjaaMg30
import Derived.Test.YtikghanejpigjaaMg32
import Derived.Test.YtikghanejpigjaaMg10
import Derived.Test.YtikghanejpigjaaMg14
namespace Go.Proofs.Ytikghanejpigjaa
open Go
set_option linter.unusedSimpArgs false
set_option linter.unusedVariables false
def freeAt (u k up pos:Int):List Bind:=if k=2∧u≤up then [⟨up - u,pos,0⟩] else []
def varAt (_ k up pos:Int):List Bind:=if k=2 then [⟨up,pos,0⟩] else []
mutual
def PE.col (f:Int→Int→Int→Int→List Bind) (u:Int):PE→List Bind
 | .mk k _ _ _ up pos kids sub=>f u k up pos++(PE.colL f u kids++PE.colS f (u+1) sub)
def PE.colL (f:Int→Int→Int→Int→List Bind) (u:Int):List PE→List Bind
 | []=>[]
 | x::xs=>PE.col f u x++PE.colL f u xs
def PE.colS (f:Int→Int→Int→Int→List Bind) (u:Int):List (PlanOf PE)→List Bind
 | []=>[]
 | x::xs=>PE.colP f u x++PE.colS f u xs
def PE.colP (f:Int→Int→Int→Int→List Bind) (u:Int):PlanOf PE→List Bind
 | ⟨_,on,w,o,i,_,_,_⟩=>PE.colLL f u on++PE.colL f u w++PE.colO f u o++PE.colL f u i
def PE.colLL (f:Int→Int→Int→Int→List Bind) (u:Int):List (List PE)→List Bind
 | []=>[]
 | x::xs=>PE.colL f u x++PE.colLL f u xs
def PE.colO (f:Int→Int→Int→Int→List Bind) (u:Int):List (PE × Bool)→List Bind
 | []=>[]
 | x::xs=>PE.col1 f u x++PE.colO f u xs
def PE.col1 (f:Int→Int→Int→Int→List Bind) (u:Int):PE × Bool→List Bind
 |(e,_)=>PE.col f u e
end
section
variable (f:Int→Int→Int→Int→List Bind)
theorem PE.colL_eq (u:Int):∀ l:List PE,PE.colL f u l=l.flatMap (PE.col f u)
 | []=>rfl
 | x::l=>by simp only [PE.colL,PE.colL_eq u l,List.flatMap_cons]
theorem PE.colS_eq (u:Int):∀ l:List PL,PE.colS f u l=l.flatMap (PE.colP f u)
 | []=>rfl
 | x::l=>by simp only [PE.colS,PE.colS_eq u l,List.flatMap_cons]
theorem flatMap_len {α β : Type} (g : α → List β):∀ l:List α,(l.flatMap g).length=sumW (fun x=>(g x).length) l
 | []=>rfl
 | x::l=>by simp only [List.flatMap_cons,List.length_append,flatMap_len g l,sumW,List.map_cons,List.sum_cons]
end
theorem flatMap_take_len {α β : Type} (g : α → List β) (l:List α) (i:Nat):((l.take i).flatMap g).length≤(l.flatMap g).length:=by
 rw [flatMap_len,flatMap_len];exact sumW_take_le _ l i
theorem freeAt_len (u k up pos:Int):(freeAt u k up pos).length≤1:=by unfold freeAt;split <;> simp
theorem varAt_len (u k up pos:Int):(varAt u k up pos).length≤1:=by unfold varAt;split <;> simp
def binds (l:List Bind):V := .sl 0 (l.map Bind.toV)
theorem plain_binds (l:List Bind):(binds l).plain=true:=plain_BindS l
@[simp] theorem Bind.under (n:Nat) (b:Bind):V.under n b.toV=true:=rfl
@[simp] theorem Bind.underS (n:Nat) (l:List Bind):V.underL n (l.map Bind.toV)=true:=underL_dat (plainL_dat _ (plainL_of' (plain_BindS l)))
theorem underLA (n:Nat) (a b:List V):V.underL n (a++b)=(V.underL n a&&V.underL n b):=by
 rw [V.underL_eq,V.underL_eq,V.underL_eq,List.all_append]
def FreC (P:Program) (g:FuncId) (e:PE):Prop:=∀ (u:Int) (s:S),0≤u→u+wgt e.v≤3000000→VCalls P g [e.v,.int .i64 u] s (fun v t=>Own2 (binds (e.col freeAt u)) v t)
end Go.Proofs.Ytikghanejpigjaa

namespace Go.Proofs.Ytikghanejpigjaa
open Go
set_option linter.unusedSimpArgs false
set_option linter.unusedVariables false
def AppC (P:Program) (g:FuncId) (A:V→List V) (sz:Nat) (us ws:List V):Prop :=
 ∀ (s:S) (H:List BE) (id:Nat),Hold s s.next (.acc id sz us us::H) →
   VCalls P g (A (.sl id us)) (s.ext []) (fun v t=>∃ s':S,v = .sl id ws∧t=s'.ext []∧Hold s' s'.next (.acc id sz ws ws::H))
section
variable {P:Program} {N:Nat} {ops:Array Oper} {l:List Oper} {K:Kn→S→Prop} {L:Kn} {s:S} {d:Nat} {ty:TypeId} {p:String} {a:Array Edge} {H H1:List BE}
theorem LOps.accH {f:Operand} {g:FuncId} {args:Array Operand} {B:Array TypeId} {A:V→List V} {sz id:Nat} {us ws:List V} (j:Nat) (hf:opd L f=some (.fn g [])) (hc:AppC P g A sz us ws) (ha:opdL L args.toList=some (A (.sl id us))) (hok:CallOk P g)
   (hh:Hold s s.next H) (hi:nthO H j=some (.acc id sz us us)) (he:eraO H j=some H1)
   (hk:∀ s':S,Hold s' s'.next (.acc id sz ws ws::H1)→LOps P N ops l K ((d,.sl id ws)::L) (s'.ext [])) :
   LOps P N ops (⟨some d,.call ⟨.value f,args,B⟩,ty,p,a,none⟩::l) K L (s.ext []):=by
 refine .call hf ha (appO_nil _) hok (hc s H1 id (hh.front hi he)) fun v s' hv=>?_
 obtain ⟨t,rfl,rfl,h3⟩:=hv
 exact hk t h3
end
def freeTop (e:PE) (u:Int):List Bind:=if 0≤u∧u≤1000000 then e.col freeAt u else []
end Go.Proofs.Ytikghanejpigjaa

namespace Go.Proofs.Ytikghanejpigjaa
open Go
theorem RelS.revarL {E:Env} {s:S} (hr:RelS E s) {l:Nat} {cs ds:List V} (hv:s.vars l=some cs) (hlen:ds.length=cs.length) (h:∀ g arr,E.loc l=some g→(∃ e fr,E.w.heap[g]?=some (.cells arr e fr))→RepL E ds (arr.toList.take cs.length)):RelS E (s.setVar l ds):=by
 have hsome:∀ x,((s.setVar l ds).vars x).isSome=true→(s.vars x).isSome=true:=fun x hx=>by
   by_cases e:x=l
   · rw [e,hv];rfl
   · rw [vars_setVar_ne e] at hx;exact hx
 refine ⟨⟨fun x c hx=>?_,fun a b g ha hb=>hr.varinj a b g (hsome a ha) (hsome b hb),hr.fam,hr.faminj,fun a g id F ha=>hr.famvar a g id F (hsome a ha),hr.fresh,hr.pos,hr.imm⟩,hr.tab.less rfl fun k t=>t.elim (fun ⟨x,a,b⟩ => .inl ⟨x,hsome x a,b⟩) .inr⟩
 by_cases e:x=l
 · subst e
   rw [vars_setVar] at hx
   cases hx
   obtain ⟨g,arr,e,fr,h1,h2⟩:=hr.var x cs hv
   exact ⟨g,arr,e,fr,h1,h2.heap,by rw [hlen];exact h g arr h1 ⟨e,fr,h2.heap⟩,by rw [hlen];exact h2.le,fun o ho=>h2.free o (by rw [hlen] at ho;exact ho),h2.imm⟩
 · rw [vars_setVar_ne e] at hx
   exact hr.var x c hx
theorem WL.frzC {P:Program} {N:Nat} {c:Code} {Q:Exit→Kn→S→Prop} {L:Kn} {s:S} {H:List BE} {l:Nat} {cs ds:List V} (hh:Hold s s.next (.own (.agg cs) (.agg ds) :: .cell l cs::H)) (h:∀ s1:S,Hold s1 s1.next (.cell l ds::H)→WL P N c Q L (s1.ext [])):WL P N c Q L (s.ext []):=by
 obtain ⟨s2,ht,h2⟩:=hh.frz
 obtain ⟨q1,q2⟩:=hh.drop1.cell (.head _)
 obtain ⟨r1,r2⟩:=h2.cell (.head _)
 have q3:(s.ext []).vars l=some cs:=by rw [ext_vars_lt _ _ (by omega)];exact q2
 have r3:(s2.ext []).vars l=some cs:=by rw [ext_vars_lt _ _ (by omega)];exact r2
 have hw:=h (s2.setVar l ds) (h2.set (i:=0) (cs:=cs) rfl rfl)
 rw [← ext0_setVar (by omega)] at hw
 refine ⟨fun σ hσ => ?_⟩
 have hw:=hw.run σ hσ
 intro E a hr ha
 obtain ⟨g,arr,e,fr,k1,k2⟩:=hr.var l cs q3
 obtain ⟨E',e1,e2,e3,e4⟩:=ht E (.agg (arr.toList.take cs.length).toArray) hr (.agg (by simpa using k2.rep))
 have e5:RepL E' ds (arr.toList.take cs.length):=by
   cases e4 with
   | agg r=>simpa using r
 have hlen:ds.length=cs.length:=by rw [← e5.length,k2.rep.length]
 have e6:RelS E' ((s2.ext []).setVar l ds):=e3.revarL r3 hlen fun g' arr' hg' hp=>by
   obtain ⟨e',fr',hp⟩:=hp
   have hg2:=e2.ev.loc _ _ k1
   rw [hg2] at hg'
   cases hg'
   rw [e1,k2.heap] at hp
   cases hp
   exact e5
 have st:Step E (s.ext []) E' ((s2.ext []).setVar l ds):=e2.trans (Step.setVar (by rw [r3];rfl) _ r3)
 have ha':RepA E' σ N a:=⟨fun t=>(ha.slot t).evolve e2.ev,ha.size,ha.defers⟩
 have:=hw E' a e6 ha'
 rw [e1] at this
 exact wp_mono this fun _ _ _ ⟨E2, σ',s',x,y,z1,z2,z3⟩=>⟨E2, σ',s',x,y,z1,z2,st.trans z3⟩
theorem WL.fgtS {P:Program} {N:Nat} {c:Code} {Q:Exit→Kn→S→Prop} {L:Kn} {s:S} {id:Nat} {us:List V} (t:Nat) (hx:lk L t=some (.sl id us)) (hp:us.map V.forget=us) (h:WL P N c Q ((t,.sl 0 us)::L) s):WL P N c Q L s:=by
 refine ⟨fun σ hσ E act h1 h2=>?_⟩
 have ha:RepA E (put σ t (.sl 0 us)) N act:=by
   refine ⟨fun u=>?_,h2.size,h2.defers⟩
   unfold put
   by_cases e:u=t
   · rw [if_pos e, e]
     have h3:=h2.slot t
     rw [hσ t _ hx] at h3
     have h4:=h3.forget
     rw [show (V.sl id us).forget = .sl 0 us by rw [← hp];simp [V.forget,V.forgetL_eq,hp]] at h4
     exact h4
   · rw [if_neg e]
     exact h2.slot u
 exact h.run _ (hσ.cons t _) E act h1 ha
theorem VCalls.zfamF {P:Program} {f:FuncId} {post:List V} {s:S} {R:V→S→Prop} (sz:Nat) (h:VCalls P f (.sl s.next []::post) (s.newFam 0 sz) R):VCalls P f (.zsl::post) s R:=by
 intro E vals h1 h2
 obtain ⟨st,r⟩:=step_emptyFam h1 sz
 cases h2 with
 | cons k1 k2 =>
   cases k1
   refine (h _ _ r (.cons (.slz (.inr ⟨⟨0,none,0,sz⟩,by simp,fun _=>rfl⟩)) (k2.evolve st.ev))).mono fun e w' ⟨E1,v,val,s',x1,x2,x3,k,r',st'⟩=>?_
   exact ⟨E1,v,val,s',x1,x2,x3,k,r',st.trans st'⟩
section
variable {P:Program} {N:Nat} {ops:Array Oper} {l:List Oper} {K:Kn→S→Prop} {L:Kn} {s:S} {d:Nat} {ty:TypeId} {p:String} {a:Array Edge} {H H1:List BE}
theorem LOps.accF {f:Operand} {g:FuncId} {args:Array Operand} {B:Array TypeId} {post:List V} {sz:Nat} {ws:List V} (hf:opd L f=some (.fn g [])) (hc:AppC P g (fun o=>o::post) sz [] ws) (ha:opdL L args.toList=some (.zsl::post)) (hok:CallOk P g)
   (hh:Hold s s.next H) (hk:∀ (s':S) (id:Nat),Hold s' s'.next (.acc id sz ws ws::H)→LOps P N ops l K ((d,.sl id ws)::L) (s'.ext [])) :
   LOps P N ops (⟨some d,.call ⟨.value f,args,B⟩,ty,p,a,none⟩::l) K L (s.ext []):=by
 have h:=hc (s.ext [.fam 0 sz]) H s.next (hh.more (e := .acc s.next sz [] []) (a:=[(false,s.next)]) ⟨[],rfl,.nil,by rw [ext_fams0];rfl,fun d hd=>by cases hd⟩ (by simp) fun p hp=>by
   simp only [List.mem_singleton] at hp
   subst hp
   simp)
 refine .call hf ha (appO_nil _) hok (VCalls.zfamF sz (R:=fun v t=>∃ s':S,v = .sl s.next ws∧t=s'.ext []∧Hold s' s'.next (.acc s.next sz ws ws::H)) ?_) fun v s' hv=>?_
 · have e : (s.ext []).newFam 0 sz = (s.ext [.fam 0 sz]).ext [] := by rw [ext_newFam, ext_ext_nil]; rfl
   rw [e]
   exact h
 · obtain ⟨t, rfl, rfl, h3⟩ := hv
   exact hk t _ h3
end
end Go.Proofs.Ytikghanejpigjaa

namespace Go.Proofs.Ytikghanejpigjaa
open Go
theorem AnsL.slcU {P:Program} {L:Kn} {s:S} {tt:BT} (ht:tt.ok P) {us ys:List V} {T e:TypeId} {t te:Ty} {x i:Operand} {id n:Nat} {k:IntKind} (hx:opd L x=some (.sl id us)) (hT:tt.get T=some t) (hkd:t.kd = .slice e) (hte:tt.get e=some te) (hi:opd L i=some (.int k (n:Int)))
   (hn:n≤us.length) (hy:us.take n=ys):AnsL P (.slice T x none (some i) none) L s (.sl 0 ys):=by
 subst hy
 exact AnsL.slcT ht hx hT hkd hte hi hn
theorem AnsL.slcD {P:Program} {L:Kn} {s:S} {tt:BT} (ht:tt.ok P) {us ys:List V} {T e:TypeId} {t te:Ty} {x i:Operand} {id n:Nat} {m:Int} {k:IntKind} (hx:opd L x=some (.sl id us)) (hT:tt.get T=some t) (hkd:t.kd = .slice e) (hte:tt.get e=some te) (hi:opd L i=some (.int k m)) (hm:m=(n:Int))
   (hn:n≤us.length) (hsz:∀ x∈us,x.cells.length=te.size) (hy:us.drop n=ys):AnsL P (.slice T x (some i) none none) L s (.sl 0 ys):=by
 subst hm hy
 have hsz':(us.all fun x=>decide (x.cells.length=te.size))=true:=by rw [List.all_eq_true];exact fun x hx=>by simpa using hsz x hx
 refine AnsL.slc (lo':=some (.int k (n:Int))) (hi':=none) (mx':=none) hx (by simp only [opdO,hi]) rfl rfl ?_
 simp only [vslice,ht.get hT,hkd,ht.get hte,Option.bind_some,bound,Int.toNat_natCast,Int.natCast_nonneg,if_true]
 rw [if_pos ⟨hn,Nat.le_refl _,.inr hsz'⟩,List.take_of_length_le (by simp)]
end Go.Proofs.Ytikghanejpigjaa
