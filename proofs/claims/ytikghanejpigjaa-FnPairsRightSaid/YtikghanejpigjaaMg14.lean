/-
  An append to a slice whose variable is open in the books, whatever its elements own; owned memory given up at a function's end, read off the books.
  Worlds that a call of the library's leaves behind: draws, and blocks behind the heap.
  Own work; no condition.
-/
import Derived.Test.YtikghanejpigjaaMg13
import Derived.Test.YtikghanejpigjaaVRel
import Derived.Sort.Grow
import Derived.Sort.Row
import Derived.Deep.Draws
namespace Go.Proofs.Ytikghanejpigjaa
open Go
section
variable {P:Program} {N:Nat} {ops:Array Oper} {l:List Oper} {K:Kn→S→Prop} {L:Kn} {s:S} {tt:BT} {d:Nat} {ty:TypeId} {p:String} {a:Array Edge} {H H1:List BE}
end
theorem frzR {s:S} {v d:V} {ls:List (Bool × Nat)} (hrd:∀ s':S,s'.next=s.next→(∀ p∈ls,SameOn s s' p)→Rd s' v d) (hvs:∀ p∈ls,p.1=true∧(s.vars p.2).isSome=true):VTurn v s d (s.lose ls):=by
 intro E val hr hv
 let so:S:={ vars:=fun x=>if (true,x)∈ls then s.vars x else none,fams:=fun _=>none,next:=s.next }
 have hsov:∀ l cs,so.vars l=some cs→(true,l)∈ls∧s.vars l=some cs:=fun l cs hl=>by
   by_cases e:(true,l)∈ls
   · have : so.vars l = s.vars l := if_pos e
     exact ⟨e,by rw [← this];exact hl⟩
   · have : so.vars l = none := if_neg e
     rw [this] at hl;cases hl
 have hro:RelS E so:=hr.weaken (fun l cs hl=>(hsov l cs hl).2) (fun _ _ h=>by cases h) (Nat.le_refl _)
 have hrd:Rd so v d:=hrd so rfl fun p hp=>⟨fun e=>by
   have e2:p=(true,p.2):=by rw [← e]
   have:so.vars p.2=s.vars p.2:=if_pos (by rw [← e2];exact hp)
   exact this,fun e=>by rw [(hvs p hp).1] at e;cases e⟩
 have hls:∀ l cs,(s.lose ls).vars l=some cs→(true,l) ∉ ls∧s.vars l=some cs:=fun l cs hl=>by
   by_cases e:(true,l)∈ls
   · have : (s.lose ls).vars l = none := if_pos e
     rw [this] at hl;cases hl
   · have : (s.lose ls).vars l = s.vars l := if_neg e
     exact ⟨e,by rw [← this];exact hl⟩
 have hlss:∀ l,((s.lose ls).vars l).isSome=true→(true,l) ∉ ls∧(s.vars l).isSome=true:=fun l hl=>by
   obtain ⟨cs,hcs⟩:=Option.isSome_iff_exists.1 hl
   obtain ⟨a,b⟩:=hls l cs hcs
   exact ⟨a,by rw [b];rfl⟩
 have ev:Evolve E (lentEnv E so):=⟨fun _ _ i => .inl i,fun _ _ _=>rfl,fun _ _ h=>h,fun id F hF=>⟨F,hF,Nat.le_refl _,fun _=>rfl⟩⟩
 refine ⟨lentEnv E so,rfl,hr.fin3 ⟨ev,rfl,rfl,rfl,Nat.le_refl _,fun _ _ _=>rfl,fun k _ ht=>?_,Nat.le_refl _⟩ ⟨fun l cs hl=>?_,fun l l' g hl hl'=>hr.varinj l l' g (hlss l hl).2 (hlss l' hl').2,fun id n sz hid=>?_,hr.faminj,fun l g id F hl=>hr.famvar l g id F (hlss l hl).2,hr.fresh,hr.pos,fun g o i=>?_⟩ (Rd.rep hro hrd hv)⟩
 · rcases ht with ⟨l, hl, hg⟩ | ht
   · exact .inl ⟨l,(hlss l hl).2,hg⟩
   · exact .inr ht
 · obtain ⟨hn, hv0⟩ := hls l cs hl
   obtain ⟨g,arr,e,fr,h1,h2⟩:=hr.var l cs hv0
   refine ⟨g,arr,e,fr,h1,h2.heap,h2.rep.evolve ev,h2.le,h2.free,fun o i=>?_⟩
   rcases i with i | ⟨l2,cs2,k1,k2,_⟩
   · exact h2.imm o i
   · obtain ⟨k3, k4⟩ := hsov l2 cs2 k1
     have:=hr.varinj l l2 g (by rw [hv0];rfl) (by rw [k4];rfl) h1 k2
     exact hn (this ▸ k3)
 · obtain ⟨h00, F, h1, h2, h3, h4, h5, h6⟩ := hr.fam id n sz hid
   refine ⟨h00,F,h1,h2,h3,h4,h5,fun g hg=>?_⟩
   obtain ⟨arr,e,fr,h7,h8,h9,h10⟩:=h6 g hg
   refine ⟨arr,e,fr,h7,h8,h9,fun o ho i=>?_⟩
   rcases i with i | ⟨l2,cs2,k1,k2,_⟩
   · exact h10 o ho i
   · obtain ⟨k3, k4⟩ := hsov l2 cs2 k1
     exact hr.famvar l2 g id F (by rw [k4];rfl) k2 (by rw [show s.fams id=some (n,sz) from hid];rfl) h1 hg
 · rcases i with i | ⟨l, cs, k1, k2, ho⟩
   · exact hr.imm g o i
   · obtain ⟨g', arr, e, fr, m1, m2⟩ := hro.var l cs k1
     rw [k2] at m1
     cases m1
     have:=m2.le
     exact ⟨arr[o]'(by omega),by show E.w.cell? _=_;rw [cell_of_row E.w _ _ arr e fr m2.heap];simp⟩
def BE.co:BE→Bool
 | .cell _ _=>true
 | .own _ _=>true
 | _=>false
theorem HoldL.split {s:S}:∀ {A B:List BE} {ls:List (Bool × Nat)},HoldL s (A++B) ls→∃ a b,ls=a++b∧HoldL s A a∧HoldL s B b
 | [],B,ls,h=>⟨[],ls,rfl,.nil,h⟩
 | e::A,B,ls,h=>by
   cases h with
   | cons h1 t =>
     obtain ⟨a,b,rfl,k1,k2⟩:=HoldL.split t
     exact ⟨_++a,b,by rw [List.append_assoc],.cons h1 k1,k2⟩
theorem HoldL.co {s:S}:∀ {A:List BE} {ls:List (Bool × Nat)},HoldL s A ls→A.all BE.co=true→∀ p∈ls,p.1=true∧(s.vars p.2).isSome=true
 | _,_,.nil,_=>fun p hp=>by cases hp
 | e::A,_,.cons h1 t,h=>fun p hp=>by
   rw [List.all_cons,Bool.and_eq_true] at h
   rcases List.mem_append.1 hp with hp | hp
   · cases e with
     | cell l cs =>
       obtain ⟨rfl,h1⟩:=h1
       rw [List.mem_singleton] at hp
       subst hp
       exact ⟨rfl,by rw [h1];rfl⟩
     | own v d=>exact Ow.vars h1 p hp
     | blk=>cases h.1
     | acc=>cases h.1
     | fac=>cases h.1
   · exact HoldL.co t h.2 p hp
structure FinS (s:S) (v d:V) (H:List BE):Prop where
 ex:∃ es,Hold s s.next (es++H)∧es.all BE.co=true∧∀ (s':S) ls,HoldL s' es ls→Rd s' v d
theorem FinS.ofO {s:S} {H H' H2:List BE} {v d:V} (hh:Hold s s.next H') (hc:ConsO H' v d H2) (hs:Sel H2 H):FinS s v d H :=
 ⟨[.own v d],(hh.pack hc).sel (.cons 0 rfl rfl hs),rfl,fun s' ls h=>by
   cases h with
   | cons h1 t=>exact Ow.rd h1⟩
theorem FinS.turn {s:S} {v d:V} {H:List BE} (h:FinS s v d H):∃ s':S,VTurn v (s.ext []) d (s'.ext [])∧Hold s' s'.next H:=by
 obtain ⟨es,h1,h2,h3⟩:=h.ex
 obtain ⟨ls,k1,k2,k3⟩:=h1.ex
 obtain ⟨a,b,rfl,m1,m2⟩:=k1.split
 have hlt:∀ p∈a,p.2<s.next:=fun p hp=>k3 p (List.mem_append_left _ hp)
 have e:(s.ext []).lose a=(s.lose a).ext []:=by
   refine S.ext_eq (fun x=>?_) (fun x=>rfl) rfl
   show (if (true,x)∈a then none else (s.ext []).vars x)=(if x<s.next then (if (true,x)∈a then none else s.vars x) else Own.cells? ([][x - s.next]?))
   by_cases hx:x<s.next
   · rw [if_pos hx,ext_vars_lt s [] hx]
   · rw [if_neg hx]
     by_cases hm:(true,x)∈a
     · exact absurd (hlt _ hm) hx
     · rw [if_neg hm]
       show (if x<s.next then s.vars x else Own.cells? ([][x - s.next]?))=_
       rw [if_neg hx]
 have m0:HoldL (s.ext []) es a:=m1.congr (by rw [ext_next];omega) fun p hp => .lt (hlt p hp)
 refine ⟨s.lose a,by rw [← e];exact frzR (fun s' hn hs=>h3 s' a (m0.congr (by rw [hn];exact Nat.le_refl _) hs)) (m0.co h2),b,HoldL.congr (s:=s) (s':=s.lose a) (show s.next≤s.next from Nat.le_refl _) m2 fun p hp=>⟨fun ep=>?_,fun _=>rfl⟩,(List.nodup_append.1 k2).2.1,fun p hp=>k3 p (List.mem_append_right _ hp)⟩
 show (if (true,p.2)∈a then none else s.vars p.2)=s.vars p.2
 refine if_neg fun hm=>(List.nodup_append.1 k2).2.2 _ hm p hp ?_
 obtain ⟨p1,p2⟩:=p
 simp only at ep ⊢
 rw [ep]
theorem VCalls.frzS {P:Program} {g:FuncId} {args:List V} {t0:S} {α : Type} {f : α → V} {p : α → Prop} {H : α → List BE} (h:VCalls P g args t0 (fun v t=>∃ (x : α) (s':S),p x∧t=s'.ext []∧FinS s' v (f x) (H x))) :
   VCalls P g args t0 (fun v t=>∃ (x : α) (s':S),p x∧v=f x∧t=s'.ext []∧Hold s' s'.next (H x)):=by
 refine VCalls.turn h fun v t _ ⟨x,s',h1,h2,h3⟩=>?_
 subst h2
 obtain ⟨s2,k1,k2⟩:=h3.turn
 exact ⟨f x,s2.ext [],k1,x,s2,h1,rfl,rfl,k2⟩
theorem WL.frz {P:Program} {N:Nat} {c:Code} {Q:Exit→Kn→S→Prop} {L:Kn} {s:S} {H:List BE} {v d:V} (k:Nat) (hk:lk L k=some v) (hh:Hold s s.next (.own v d::H)) (h:∀ s1:S,Hold s1 s1.next H→WL P N c Q ((k,d)::L) (s1.ext [])):WL P N c Q L (s.ext []):=by
 obtain ⟨s2,ht,h2⟩:=hh.frz
 refine ⟨fun σ hσ => ?_⟩
 have hv : σ k=v:=hσ _ _ hk
 have hw:=(h s2 h2).run (put σ k d) (hσ.cons k d)
 intro E a hr ha
 obtain ⟨E',e1,e2,e3,e4⟩:=ht E _ hr (by have:=ha.slot k;rw [hv] at this;exact this)
 have ha':RepA E' (put σ k d) N a:=⟨fun t=>by
   unfold put
   split
   · rename_i e;subst e;exact e4
   · exact (ha.slot t).evolve e2.ev,ha.size,ha.defers⟩
 have:=hw E' a e3 ha'
 rw [e1] at this
 exact wp_mono this fun _ _ _ ⟨E2, σ',s',x,y,z1,z2,z3⟩=>⟨E2, σ',s',x,y,z1,z2,e2.trans z3⟩
theorem RdL.app {s:S}:∀ {vs ds ws es:List V},RdL s vs ds→RdL s ws es→RdL s (vs++ws) (ds++es)
 | _,_,_,_,.nil,k=>k
 | _,_,_,_,.cons h t,k => .cons h (t.app k)
theorem FinS.pl {s:S} {H H' H2:List BE} {v d:V} (ps:List V) (hh:Hold s s.next H') (hc:ConsO H' v d H2) (hs:Sel H2 H) (hp:V.plainL ps=true):FinS s (.agg (ps++[v])) (.agg (ps++[d])) H :=
 ⟨[.own v d],(hh.pack hc).sel (.cons 0 rfl rfl hs),rfl,fun s' ls h=>by
   cases h with
   | cons h1 t=>exact .agg ((RdL.plain ps hp).app (.cons (Ow.rd h1) .nil))⟩
end Go.Proofs.Ytikghanejpigjaa

namespace Go.Proofs.Ytikghanejpigjaa
open Go
set_option linter.unusedSimpArgs false
set_option linter.unusedVariables false
theorem RelS.grown {s:S} (os:List Obj):∀ {E:Env},RelS E s→∃ E':Env,E'.w=Sort.grow E.w os.toArray∧Step E s E' s∧RelS E' s:=by
 induction os with
 | nil=>intro E h;exact ⟨E,by simp,.refl _ _,h⟩
 | cons o os ih =>
   intro E h
   obtain ⟨a,b⟩:=step_raw h o
   obtain ⟨E',e,c,d⟩:=ih b
   refine ⟨E',?_,a.trans c,d⟩
   rw [e]
   show Sort.grow (E.w.alloc o) _=_
   rw [Sort.alloc_eq_grow,Sort.grow_grow]
   congr 1
   simp
theorem RelS.drewN {s:S} (k:Nat):∀ {E:Env},RelS E s→∃ E':Env,E'.w=E.w.drewN k∧Step E s E' s∧RelS E' s:=by
 induction k with
 | zero=>intro E h;exact ⟨E,rfl,.refl _ _,h⟩
 | succ k ih =>
   intro E h
   obtain ⟨E',e,c,d⟩:=ih h
   obtain ⟨a,b⟩:=step_drew d
   refine ⟨E'.drew,?_,c.trans a,b⟩
   show E'.w.drew=_
   rw [e]
   rfl
end Go.Proofs.Ytikghanejpigjaa
