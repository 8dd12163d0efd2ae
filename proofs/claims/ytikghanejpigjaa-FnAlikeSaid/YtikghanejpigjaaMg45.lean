/-
  An append to a slice whose variable is open in the books, whatever its elements own; owned memory given up at a function's end, read off the books.
  A variable's cells, given up between two regions: from there on they are plain. An empty slice as the first argument.
  Parts of a slice whose elements are known.
  Tokens drawn; a row of tokens turned a little.
  A row of tokens, turned a little; the rows of tokens that the laws of parentheses draw.
  Own work; no condition.
-/
import Derived.Test.YtikghanejpigjaaMg25
import Derived.Test.YtikghanejpigjaaMg36
import Derived.Test.YtikghanejpigjaaMg37
import Derived.Test.YtikghanejpigjaaMg10
import Derived.Test.YtikghanejpigjaaDTk3
namespace Go.Proofs.Ytikghanejpigjaa
open Go
section
variable {P:Program} {N:Nat} {ops:Array Oper} {l:List Oper} {K:Kn→S→Prop} {L:Kn} {s:S} {tt:BT} {d:Nat} {ty:TypeId} {p:String} {a:Array Edge} {H H1:List BE}
end
theorem frzR {s:S} {v d:V} {ls:List (Bool × Nat)} (hrd:∀ s':S,s'.next=s.next→(∀ p∈ls,SameOn s s' p)→Rd s' v d) (hvs:∀ p∈ls,p.1=true∧(s.vars p.2).isSome=true):VTurn v s d (s.lose ls):=by
 intro E val hr hv
 let so:S:={ vars:=fun x=>if (true,x)∈ls then s.vars x else none,fams:=fun _=>none,next:=s.next }
 have hsov:∀ l cs,so.vars l=some cs→(true,l)∈ls∧s.vars l=some cs:=fun l cs hl=>by
   by_cases e:(true,l)∈ls
   · have : so.vars l = s.vars l := if_pos e
     exact ⟨e,by rw [← this];exact hl⟩
   · have : so.vars l = none := if_neg e
     rw [this] at hl;cases hl
 have hro:RelS E so:=hr.weaken (fun l cs hl=>(hsov l cs hl).2) (fun _ _ h=>by cases h) (Nat.le_refl _)
 have hrd:Rd so v d:=hrd so rfl fun p hp=>⟨fun e=>by
   have e2:p=(true,p.2):=by rw [← e]
   have:so.vars p.2=s.vars p.2:=if_pos (by rw [← e2];exact hp)
   exact this,fun e=>by rw [(hvs p hp).1] at e;cases e⟩
 have hls:∀ l cs,(s.lose ls).vars l=some cs→(true,l) ∉ ls∧s.vars l=some cs:=fun l cs hl=>by
   by_cases e:(true,l)∈ls
   · have : (s.lose ls).vars l = none := if_pos e
     rw [this] at hl;cases hl
   · have : (s.lose ls).vars l = s.vars l := if_neg e
     exact ⟨e,by rw [← this];exact hl⟩
 have hlss:∀ l,((s.lose ls).vars l).isSome=true→(true,l) ∉ ls∧(s.vars l).isSome=true:=fun l hl=>by
   obtain ⟨cs,hcs⟩:=Option.isSome_iff_exists.1 hl
   obtain ⟨a,b⟩:=hls l cs hcs
   exact ⟨a,by rw [b];rfl⟩
 have ev:Evolve E (lentEnv E so):=⟨fun _ _ i => .inl i,fun _ _ _=>rfl,fun _ _ h=>h,fun id F hF=>⟨F,hF,Nat.le_refl _,fun _=>rfl⟩⟩
 refine ⟨lentEnv E so,rfl,hr.fin3 ⟨ev,rfl,rfl,rfl,Nat.le_refl _,fun _ _ _=>rfl,fun k _ ht=>?_,Nat.le_refl _⟩ ⟨fun l cs hl=>?_,fun l l' g hl hl'=>hr.varinj l l' g (hlss l hl).2 (hlss l' hl').2,fun id n sz hid=>?_,hr.faminj,fun l g id F hl=>hr.famvar l g id F (hlss l hl).2,hr.fresh,hr.pos,fun g o i=>?_⟩ (Rd.rep hro hrd hv)⟩
 · rcases ht with ⟨l, hl, hg⟩ | ht
   · exact .inl ⟨l,(hlss l hl).2,hg⟩
   · exact .inr ht
 · obtain ⟨hn, hv0⟩ := hls l cs hl
   obtain ⟨g,arr,e,fr,h1,h2⟩:=hr.var l cs hv0
   refine ⟨g,arr,e,fr,h1,h2.heap,h2.rep.evolve ev,h2.le,h2.free,fun o i=>?_⟩
   rcases i with i | ⟨l2,cs2,k1,k2,_⟩
   · exact h2.imm o i
   · obtain ⟨k3, k4⟩ := hsov l2 cs2 k1
     have:=hr.varinj l l2 g (by rw [hv0];rfl) (by rw [k4];rfl) h1 k2
     exact hn (this ▸ k3)
 · obtain ⟨h00, F, h1, h2, h3, h4, h5, h6⟩ := hr.fam id n sz hid
   refine ⟨h00,F,h1,h2,h3,h4,h5,fun g hg=>?_⟩
   obtain ⟨arr,e,fr,h7,h8,h9,h10⟩:=h6 g hg
   refine ⟨arr,e,fr,h7,h8,h9,fun o ho i=>?_⟩
   rcases i with i | ⟨l2,cs2,k1,k2,_⟩
   · exact h10 o ho i
   · obtain ⟨k3, k4⟩ := hsov l2 cs2 k1
     exact hr.famvar l2 g id F (by rw [k4];rfl) k2 (by rw [show s.fams id=some (n,sz) from hid];rfl) h1 hg
 · rcases i with i | ⟨l, cs, k1, k2, ho⟩
   · exact hr.imm g o i
   · obtain ⟨g', arr, e, fr, m1, m2⟩ := hro.var l cs k1
     rw [k2] at m1
     cases m1
     have:=m2.le
     exact ⟨arr[o]'(by omega),by show E.w.cell? _=_;rw [cell_of_row E.w _ _ arr e fr m2.heap];simp⟩
def BE.co:BE→Bool
 | .cell _ _=>true
 | .own _ _=>true
 | _=>false
theorem HoldL.split {s:S}:∀ {A B:List BE} {ls:List (Bool × Nat)},HoldL s (A++B) ls→∃ a b,ls=a++b∧HoldL s A a∧HoldL s B b
 | [],B,ls,h=>⟨[],ls,rfl,.nil,h⟩
 | e::A,B,ls,h=>by
   cases h with
   | cons h1 t =>
     obtain ⟨a,b,rfl,k1,k2⟩:=HoldL.split t
     exact ⟨_++a,b,by rw [List.append_assoc],.cons h1 k1,k2⟩
theorem HoldL.co {s:S}:∀ {A:List BE} {ls:List (Bool × Nat)},HoldL s A ls→A.all BE.co=true→∀ p∈ls,p.1=true∧(s.vars p.2).isSome=true
 | _,_,.nil,_=>fun p hp=>by cases hp
 | e::A,_,.cons h1 t,h=>fun p hp=>by
   rw [List.all_cons,Bool.and_eq_true] at h
   rcases List.mem_append.1 hp with hp | hp
   · cases e with
     | cell l cs =>
       obtain ⟨rfl,h1⟩:=h1
       rw [List.mem_singleton] at hp
       subst hp
       exact ⟨rfl,by rw [h1];rfl⟩
     | own v d=>exact Ow.vars h1 p hp
     | blk=>cases h.1
     | acc=>cases h.1
     | fac=>cases h.1
   · exact HoldL.co t h.2 p hp
structure FinS (s:S) (v d:V) (H:List BE):Prop where
 ex:∃ es,Hold s s.next (es++H)∧es.all BE.co=true∧∀ (s':S) ls,HoldL s' es ls→Rd s' v d
theorem FinS.turn {s:S} {v d:V} {H:List BE} (h:FinS s v d H):∃ s':S,VTurn v (s.ext []) d (s'.ext [])∧Hold s' s'.next H:=by
 obtain ⟨es,h1,h2,h3⟩:=h.ex
 obtain ⟨ls,k1,k2,k3⟩:=h1.ex
 obtain ⟨a,b,rfl,m1,m2⟩:=k1.split
 have hlt:∀ p∈a,p.2<s.next:=fun p hp=>k3 p (List.mem_append_left _ hp)
 have e:(s.ext []).lose a=(s.lose a).ext []:=by
   refine S.ext_eq (fun x=>?_) (fun x=>rfl) rfl
   show (if (true,x)∈a then none else (s.ext []).vars x)=(if x<s.next then (if (true,x)∈a then none else s.vars x) else Own.cells? ([][x - s.next]?))
   by_cases hx:x<s.next
   · rw [if_pos hx,ext_vars_lt s [] hx]
   · rw [if_neg hx]
     by_cases hm:(true,x)∈a
     · exact absurd (hlt _ hm) hx
     · rw [if_neg hm]
       show (if x<s.next then s.vars x else Own.cells? ([][x - s.next]?))=_
       rw [if_neg hx]
 have m0:HoldL (s.ext []) es a:=m1.congr (by rw [ext_next];omega) fun p hp => .lt (hlt p hp)
 refine ⟨s.lose a,by rw [← e];exact frzR (fun s' hn hs=>h3 s' a (m0.congr (by rw [hn];exact Nat.le_refl _) hs)) (m0.co h2),b,HoldL.congr (s:=s) (s':=s.lose a) (show s.next≤s.next from Nat.le_refl _) m2 fun p hp=>⟨fun ep=>?_,fun _=>rfl⟩,(List.nodup_append.1 k2).2.1,fun p hp=>k3 p (List.mem_append_right _ hp)⟩
 show (if (true,p.2)∈a then none else s.vars p.2)=s.vars p.2
 refine if_neg fun hm=>(List.nodup_append.1 k2).2.2 _ hm p hp ?_
 obtain ⟨p1,p2⟩:=p
 simp only at ep ⊢
 rw [ep]
theorem VCalls.frzS {P:Program} {g:FuncId} {args:List V} {t0:S} {α : Type} {f : α → V} {p : α → Prop} {H : α → List BE} (h:VCalls P g args t0 (fun v t=>∃ (x : α) (s':S),p x∧t=s'.ext []∧FinS s' v (f x) (H x))) :
   VCalls P g args t0 (fun v t=>∃ (x : α) (s':S),p x∧v=f x∧t=s'.ext []∧Hold s' s'.next (H x)):=by
 refine VCalls.turn h fun v t _ ⟨x,s',h1,h2,h3⟩=>?_
 subst h2
 obtain ⟨s2,k1,k2⟩:=h3.turn
 exact ⟨f x,s2.ext [],k1,x,s2,h1,rfl,rfl,k2⟩
theorem RdL.app {s:S}:∀ {vs ds ws es:List V},RdL s vs ds→RdL s ws es→RdL s (vs++ws) (ds++es)
 | _,_,_,_,.nil,k=>k
 | _,_,_,_,.cons h t,k => .cons h (t.app k)
theorem FinS.pl {s:S} {H H' H2:List BE} {v d:V} (ps:List V) (hh:Hold s s.next H') (hc:ConsO H' v d H2) (hs:Sel H2 H) (hp:V.plainL ps=true):FinS s (.agg (ps++[v])) (.agg (ps++[d])) H :=
 ⟨[.own v d],(hh.pack hc).sel (.cons 0 rfl rfl hs),rfl,fun s' ls h=>by
   cases h with
   | cons h1 t=>exact .agg ((RdL.plain ps hp).app (.cons (Ow.rd h1) .nil))⟩
theorem VCalls.frzST {P:Program} {g:FuncId} {args:List V} {t0:S} {α : Type} {f : α → List V} {p : α → Prop} {H:List BE} (h:VCalls P g args t0 (fun v t=>∃ (x : α) (s':S) (vs:List V),p x∧v = .tup vs∧t=s'.ext []∧FinS s' (.agg vs) (.agg (f x)) H)) :
   VCalls P g args t0 (fun v t=>∃ (x : α) (s':S),p x∧v = .tup (f x)∧t=s'.ext []∧Hold s' s'.next H):=by
 refine VCalls.turn h fun v t _ ⟨x,s',vs,h1,h0,h2,h3⟩=>?_
 subst h2 h0
 obtain ⟨s2,k1,k2⟩:=h3.turn
 exact ⟨.tup (f x),s2.ext [],k1.tup,x,s2,h1,rfl,rfl,k2⟩
end Go.Proofs.Ytikghanejpigjaa

namespace Go.Proofs.Ytikghanejpigjaa
open Go
theorem RelS.revarL {E:Env} {s:S} (hr:RelS E s) {l:Nat} {cs ds:List V} (hv:s.vars l=some cs) (hlen:ds.length=cs.length) (h:∀ g arr,E.loc l=some g→(∃ e fr,E.w.heap[g]?=some (.cells arr e fr))→RepL E ds (arr.toList.take cs.length)):RelS E (s.setVar l ds):=by
 have hsome:∀ x,((s.setVar l ds).vars x).isSome=true→(s.vars x).isSome=true:=fun x hx=>by
   by_cases e:x=l
   · rw [e,hv];rfl
   · rw [vars_setVar_ne e] at hx;exact hx
 refine ⟨⟨fun x c hx=>?_,fun a b g ha hb=>hr.varinj a b g (hsome a ha) (hsome b hb),hr.fam,hr.faminj,fun a g id F ha=>hr.famvar a g id F (hsome a ha),hr.fresh,hr.pos,hr.imm⟩,hr.tab.less rfl fun k t=>t.elim (fun ⟨x,a,b⟩ => .inl ⟨x,hsome x a,b⟩) .inr⟩
 by_cases e:x=l
 · subst e
   rw [vars_setVar] at hx
   cases hx
   obtain ⟨g,arr,e,fr,h1,h2⟩:=hr.var x cs hv
   exact ⟨g,arr,e,fr,h1,h2.heap,by rw [hlen];exact h g arr h1 ⟨e,fr,h2.heap⟩,by rw [hlen];exact h2.le,fun o ho=>h2.free o (by rw [hlen] at ho;exact ho),h2.imm⟩
 · rw [vars_setVar_ne e] at hx
   exact hr.var x c hx
theorem WL.frzC {P:Program} {N:Nat} {c:Code} {Q:Exit→Kn→S→Prop} {L:Kn} {s:S} {H:List BE} {l:Nat} {cs ds:List V} (hh:Hold s s.next (.own (.agg cs) (.agg ds) :: .cell l cs::H)) (h:∀ s1:S,Hold s1 s1.next (.cell l ds::H)→WL P N c Q L (s1.ext [])):WL P N c Q L (s.ext []):=by
 obtain ⟨s2,ht,h2⟩:=hh.frz
 obtain ⟨q1,q2⟩:=hh.drop1.cell (.head _)
 obtain ⟨r1,r2⟩:=h2.cell (.head _)
 have q3:(s.ext []).vars l=some cs:=by rw [ext_vars_lt _ _ (by omega)];exact q2
 have r3:(s2.ext []).vars l=some cs:=by rw [ext_vars_lt _ _ (by omega)];exact r2
 have hw:=h (s2.setVar l ds) (h2.set (i:=0) (cs:=cs) rfl rfl)
 rw [← ext0_setVar (by omega)] at hw
 refine ⟨fun σ hσ => ?_⟩
 have hw:=hw.run σ hσ
 intro E a hr ha
 obtain ⟨g,arr,e,fr,k1,k2⟩:=hr.var l cs q3
 obtain ⟨E',e1,e2,e3,e4⟩:=ht E (.agg (arr.toList.take cs.length).toArray) hr (.agg (by simpa using k2.rep))
 have e5:RepL E' ds (arr.toList.take cs.length):=by
   cases e4 with
   | agg r=>simpa using r
 have hlen:ds.length=cs.length:=by rw [← e5.length,k2.rep.length]
 have e6:RelS E' ((s2.ext []).setVar l ds):=e3.revarL r3 hlen fun g' arr' hg' hp=>by
   obtain ⟨e',fr',hp⟩:=hp
   have hg2:=e2.ev.loc _ _ k1
   rw [hg2] at hg'
   cases hg'
   rw [e1,k2.heap] at hp
   cases hp
   exact e5
 have st:Step E (s.ext []) E' ((s2.ext []).setVar l ds):=e2.trans (Step.setVar (by rw [r3];rfl) _ r3)
 have ha':RepA E' σ N a:=⟨fun t=>(ha.slot t).evolve e2.ev,ha.size,ha.defers⟩
 have:=hw E' a e6 ha'
 rw [e1] at this
 exact wp_mono this fun _ _ _ ⟨E2, σ',s',x,y,z1,z2,z3⟩=>⟨E2, σ',s',x,y,z1,z2,st.trans z3⟩
theorem VCalls.zfamF {P:Program} {f:FuncId} {post:List V} {s:S} {R:V→S→Prop} (sz:Nat) (h:VCalls P f (.sl s.next []::post) (s.newFam 0 sz) R):VCalls P f (.zsl::post) s R:=by
 intro E vals h1 h2
 obtain ⟨st,r⟩:=step_emptyFam h1 sz
 cases h2 with
 | cons k1 k2 =>
   cases k1
   refine (h _ _ r (.cons (.slz (.inr ⟨⟨0,none,0,sz⟩,by simp,fun _=>rfl⟩)) (k2.evolve st.ev))).mono fun e w' ⟨E1,v,val,s',x1,x2,x3,k,r',st'⟩=>?_
   exact ⟨E1,v,val,s',x1,x2,x3,k,r',st.trans st'⟩
section
variable {P:Program} {N:Nat} {ops:Array Oper} {l:List Oper} {K:Kn→S→Prop} {L:Kn} {s:S} {d:Nat} {ty:TypeId} {p:String} {a:Array Edge} {H H1:List BE}
theorem LOps.accF {f:Operand} {g:FuncId} {args:Array Operand} {B:Array TypeId} {post:List V} {sz:Nat} {ws:List V} (hf:opd L f=some (.fn g [])) (hc:AppC P g (fun o=>o::post) sz [] ws) (ha:opdL L args.toList=some (.zsl::post)) (hok:CallOk P g)
   (hh:Hold s s.next H) (hk:∀ (s':S) (id:Nat),Hold s' s'.next (.acc id sz ws ws::H)→LOps P N ops l K ((d,.sl id ws)::L) (s'.ext [])) :
   LOps P N ops (⟨some d,.call ⟨.value f,args,B⟩,ty,p,a,none⟩::l) K L (s.ext []):=by
 have h:=hc (s.ext [.fam 0 sz]) H s.next (hh.more (e := .acc s.next sz [] []) (a:=[(false,s.next)]) ⟨[],rfl,.nil,by rw [ext_fams0];rfl,fun d hd=>by cases hd⟩ (by simp) fun p hp=>by
   simp only [List.mem_singleton] at hp
   subst hp
   simp)
 refine .call hf ha (appO_nil _) hok (VCalls.zfamF sz (R:=fun v t=>∃ s':S,v = .sl s.next ws∧t=s'.ext []∧Hold s' s'.next (.acc s.next sz ws ws::H)) ?_) fun v s' hv=>?_
 · have e : (s.ext []).newFam 0 sz = (s.ext [.fam 0 sz]).ext [] := by rw [ext_newFam, ext_ext_nil]; rfl
   rw [e]
   exact h
 · obtain ⟨t, rfl, rfl, h3⟩ := hv
   exact hk t _ h3
end
end Go.Proofs.Ytikghanejpigjaa

namespace Go.Proofs.Ytikghanejpigjaa
open Go
end Go.Proofs.Ytikghanejpigjaa

namespace Go.Proofs.Ytikghanejpigjaa
open Go
set_option linter.unusedSimpArgs false
set_option linter.unusedVariables false
theorem Tok.agg_eq (a:Int) (b:List UInt8) (c:Int):V.agg [.int .i64 a,.str b,.int .i64 c]=tokW ⟨a,b,c⟩:=rfl
end Go.Proofs.Ytikghanejpigjaa

namespace Go.Proofs.Ytikghanejpigjaa
open Go
set_option linter.unusedSimpArgs false
set_option linter.unusedVariables false
theorem consTk (H:List BE):∀ l:List Token,ConsOL H (l.map Token.toV) (l.map Token.toV) H
 | [] => .nil
 | t::l => .cons (.agg (.cons (.scal rfl) (.cons (.scal rfl) (.cons (.scal rfl) .nil)))) (consTk H l)
theorem plainTk:∀ l:List Token,V.plainL (l.map Token.toV)=true
 | []=>rfl
 | t::l=>by
   have h:=plainTk l
   simp only [List.map_cons,V.plainL,Token.toV,V.plain,V.scal,h,Bool.and_self,Bool.true_and,Bool.and_true]
   try rfl
theorem cvTk:∀ l:List Token,cvL (l.map Token.toV)=0
 | []=>rfl
 | t::l=>by
   have h:=cvTk l
   simp only [List.map_cons,cvL,Token.toV,cv,h]
theorem tokSz3 (l:List Token):∀ x∈l.map Token.toV,x.cells.length=3:=by
 intro x hx
 obtain ⟨y,_,rfl⟩:=List.mem_map.1 hx
 rfl
theorem FinS.sl {s:S} {H H':List BE} {id:Nat} {us:List V} (hp:V.plainL us=true) (hh:Hold s s.next H') (hs:Sel H' H):FinS s (.sl id us) (.sl 0 us) H:=⟨[],hh.sel hs,rfl,fun s' ls _ => .sl (RdL.plain us hp)⟩
theorem Tok.own {s:S} {b:Nat} {H:List BE} (x:Token) (h:Hold s b H):Hold s b (.own (tokW x) x.toV::H):=h.pack (.agg (.cons (.scal rfl) (.cons (.scal rfl) (.cons (.scal rfl) .nil))))
end Go.Proofs.Ytikghanejpigjaa
