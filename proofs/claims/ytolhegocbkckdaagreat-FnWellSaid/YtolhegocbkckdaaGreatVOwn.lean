/-
 Results made of new memory alone: what they look like in the world, and calls that lend their arguments.
 Data in variables: how many, that they read as the data, and calls on them.
 Data in variables, written over cell by cell: what is written, and the rules of the loop that does it.
 Behind a call that marked variables, what it made of its own is forgotten.
 Made slices as results of new memory.
 What answers new memory, seen as plain; marks of what is held by value.
 Own work; no condition.
-/
import Derived.Test.YtolhegocbkckdaaGreatVLend
namespace Go.Proofs.YtolhegocbkckdaaGreat
open Go
theorem vZ (y:V) (ys:List V):V.flat (y::ys)=y.cells++V.flat ys:=by simp [V.flat]
theorem bK:∀ (a b:List V) (n:Nat),xZ n (a++b)=((xZ n a).1++(xZ (n+(xZ n a).2.length) b).1,(xZ n a).2++(xZ (n+(xZ n a).2.length) b).2)
 | [],b,n=>by simp [xZ]
 | x::a,b,n=>by
   simp only [List.cons_append,xZ,bK a b]
   simp only [List.length_append,Nat.add_assoc,List.append_assoc]
theorem dP (x:V) (n:Nat):(kH n x).1.cells=(xZ n x.cells).1∧(kH n x).2=(xZ n x.cells).2:=by
 have one:∀ y:V,(kH n y).1.cells=[(kH n y).1]→y.cells=[y]→(kH n y).1.cells=(xZ n y.cells).1∧(kH n y).2=(xZ n y.cells).2:=fun y h1 h2=>by
   rw [h2,h1]
   simp [xZ]
 cases x with
 | agg cs=>exact ⟨rfl,rfl⟩
 | raw v =>
   have:∀ l:List Value,xZ n (l.map V.raw)=(l.map V.raw,[]):=by
     intro l
     clear one
     induction l with
     | nil=>rfl
     | cons a l ih =>
       simp only [List.map_cons,xZ,kH,List.length_nil,Nat.add_zero,ih,List.append_nil]
   simp only [kH,V.cells,this,and_self]
 | sl id xs =>
   refine one _ ?_ rfl
   unfold kH
   cases xs.isEmpty <;> rfl
 | _=>exact one _ rfl rfl
theorem Zk:∀ (xs:List V) (n:Nat),V.flat (xZ n xs).1=(xZ n (V.flat xs)).1∧(xZ n xs).2=(xZ n (V.flat xs)).2
 | [],n=>⟨rfl,rfl⟩
 | x::xs,n=>by
   obtain ⟨h1,h2⟩:=dP x n
   obtain ⟨h3,h4⟩:=Zk xs (n+(kH n x).2.length)
   rw [vZ,bK]
   simp only [xZ,vZ]
   rw [h3,h4,h1,h2]
   exact ⟨rfl,rfl⟩
mutual
inductive WT (w:World):V→Value→List Nat→Prop
 | int {k n}:k.min≤n→n≤k.max→WT w (.int k n) (.int k n) []
 | bool {b}:WT w (.bool b) (.bool b) []
 | str {s}:s.length≤maxLen→WT w (.str s) (.string ⟨s.toArray⟩) []
 | kC:WT w .kC (.pointer none) []
 | und:WT w .und undef []
 | UA {a}:WT w (.sl 0 []) (.slice a 0 0) []
 | emp {g off cap}:cap≤maxLen→WT w (.sl 0 []) (.slice (some ⟨g,off,none⟩) 0 cap) []
 | sl {ds sz g cap arr e fr gs}:ds.isEmpty=false→(∀ x∈ds,x.cells.length=sz)→ds.length≤cap→cap≤maxLen→w.heap[g]?=some (.cells arr e fr)→(V.flat ds).length≤arr.size →
     (∀ o,o<(V.flat ds).length→¬ (fr.1≤o∧o<fr.2))→YB w (V.flat ds) (arr.toList.take (V.flat ds).length) gs→WT w (.sl 0 ds) (.slice (some ⟨g,0,none⟩) ds.length cap) (gs++[g])
 | agg {cs vals gs}:YB w cs vals gs→WT w (.agg cs) (.agg vals.toArray) gs
 | jY {cs vals gs}:YB w cs vals gs→WT w (.jY cs) (.tuple vals.toArray) gs
inductive YB (w:World):List V→List Value→List Nat→Prop
 | nil:YB w [] [] []
 | cons {d ds val vals a b}:WT w d val a→YB w ds vals b→YB w (d::ds) (val::vals) (a++b)
end
def F7 (w:World) (E3:Env) (g:Nat) (cs:List V):Prop:=∃ arr e fr,w.heap[g]?=some (.cells arr e fr)∧ql E3 cs (arr.toList.take cs.length)∧cs.length≤arr.size∧∀ o,o<cs.length→¬ (fr.1≤o∧o<fr.2)
def Placed (E3:Env) (n:Nat) (gs:List Nat):Prop:=∀ j g,gs[j]?=some g→E3.loc (n+j)=some g
theorem Placed.left {E3:Env} {n:Nat} {a b:List Nat} (h:Placed E3 n (a++b)):Placed E3 n a:=fun j g hj=>h j g (by
 rw [List.getElem?_append_left (List.getElem?_eq_some_iff.1 hj).1];exact hj)
theorem Placed.right {E3:Env} {n:Nat} {a b:List Nat} (h:Placed E3 n (a++b)):Placed E3 (n+a.length) b:=fun j g hj=>by
 have:=h (a.length+j) g (by rw [List.getElem?_append_right (by omega),Nat.add_sub_cancel_left];exact hj)
 rw [Nat.add_assoc];exact this
def bJ (w:World) (E3:Env) (gs:List Nat) (os:List (Nat × List V)):Prop:=∀ (j g:Nat) (p:Nat × List V),gs[j]?=some g→os[j]?=some p→F7 w E3 g p.2
theorem bJ.append {w:World} {E3:Env} {a b:List Nat} {oa ob:List (Nat × List V)} (hl:oa.length=a.length) (h1:bJ w E3 a oa) (h2:bJ w E3 b ob):bJ w E3 (a++b) (oa++ob):=by
 intro j g p hg hp
 by_cases h:j<a.length
 · rw [List.getElem?_append_left h] at hg
   rw [List.getElem?_append_left (by omega)] at hp
   exact h1 j g p hg hp
 · rw [List.getElem?_append_right (by omega)] at hg
   rw [List.getElem?_append_right (by omega),hl] at hp
   exact h2 _ g p hg hp
mutual
theorem WT.place {w:World} {E3:Env}:∀ {d:V} {val:Value} {gs:List Nat},WT w d val gs→∀ n,Placed E3 n gs→qy E3 (kH n d).1 val∧(kH n d).2.length=gs.length∧bJ w E3 gs (kH n d).2
 | _,_,_,.int a b,n,_=>⟨.int a b,rfl,fun j g p h=>by simp at h⟩
 | _,_,_,.bool,n,_=>⟨.bool,rfl,fun j g p h=>by simp at h⟩
 | _,_,_,.str a,n,_=>⟨.str a,rfl,fun j g p h=>by simp at h⟩
 | _,_,_,.kC,n,_=>⟨.kC,rfl,fun j g p h=>by simp at h⟩
 | _,_,_,.und,n,_=>⟨.und,rfl,fun j g p h=>by simp at h⟩
 | _,_,_,.UA,n,_=>⟨.iy (.inl rfl),rfl,fun j g p h=>by simp at h⟩
 | _,_,_,.emp (g:=g) (off:=off) a,n,_=>⟨qy.sl (xs:=[]) (vals:=[]) (sz:=0) (by simp) (by simp) a .nil (fun j v hj=>by simp at hj) (.inl rfl),rfl,fun j g p h=>by simp at h⟩
 | _,_,_,.agg (cs:=cs) h,n,hp=>by
   obtain ⟨a,b,c⟩:=YB.place h n hp
   exact ⟨.agg a,b,c⟩
 | _,_,_,.jY h,n,hp=>by
   obtain ⟨a,b,c⟩:=YB.place h n hp
   exact ⟨.jY a,b,c⟩
 | _,_,_,.sl (ds:=ds) (sz:=sz) (g:=g) (arr:=arr) (e:=e) (fr:=fr) (gs:=gs) h1 h2 h3 h4 h5 h6 h7 h8,n,hp=>by
   obtain ⟨a,b,c⟩:=YB.place h8 n hp.left
   obtain ⟨f1,f2⟩:=Zk ds n
   have hth:kH n (.sl 0 ds)=(.qJ .un (n+gs.length) 0 ds.length,(xZ n (V.flat ds)).2++[(0,(xZ n (V.flat ds)).1)]):=by
     unfold kH
     rw [h1]
     simp only [Bool.false_eq_true,if_false,f1,f2,b]
   rw [hth]
   refine ⟨.qJ (hp.right 0 g rfl) h3 h4 trivial,by simp [b],bJ.append b c fun j g' p hg hpp=>?_⟩
   cases j with
   | succ j=>simp at hg
   | zero =>
     simp only [List.getElem?_cons_zero,Option.some.injEq] at hg hpp
     subst hg hpp
     simp only
     refine ⟨arr,e,fr,h5,?_,by rw [uo];exact h6,fun o ho=>h7 o (by rw [uo] at ho;exact ho)⟩
     rw [uo]
     exact a
theorem YB.place {w:World} {E3:Env}:∀ {ds:List V} {vals:List Value} {gs:List Nat},YB w ds vals gs→∀ n,Placed E3 n gs→ql E3 (xZ n ds).1 vals∧(xZ n ds).2.length=gs.length∧bJ w E3 gs (xZ n ds).2
 | _,_,_,.nil,n,_=>⟨.nil,rfl,fun j g p h=>by simp at h⟩
 | _,_,_,.cons (a:=a) (b:=b) h t,n,hp=>by
   obtain ⟨a1,b1,c1⟩:=WT.place h n hp.left
   obtain ⟨a2,b2,c2⟩:=YB.place t (n+a.length) hp.right
   simp only [xZ]
   rw [b1]
   exact ⟨.cons a1 a2,by simp [b1,b2],bJ.append b1 c1 c2⟩
end
mutual
inductive Tr (t:S):V→V→List (Bool × Nat)→Prop
 | qP {v}:v.qP=true→Tr t v v []
 | jo:Tr t .jo (.sl 0 []) []
 | zl:Tr t .zl (.sl 0 []) []
 | emp {id}:Tr t (.sl id []) (.sl 0 []) []
 | F8 {ex l o}:Tr t (.qJ ex l o 0) (.sl 0 []) []
 | sl {id us ds sz sz' ls}:us.isEmpty=false→us.length=ds.length→(∀ x∈ds,x.cells.length=sz')→t.xJ id=some (us.length,sz)→eO t (V.flat us) (V.flat ds) ls→Tr t (.sl id us) (.sl 0 ds) (ls++[(false,id)])
 | qJ {ex l n us ds sz' ls}:ds.isEmpty=false→n=ds.length→(∀ x∈ds,x.cells.length=sz')→t.vars l=some us→eO t us (V.flat ds) ls→Tr t (.qJ ex l 0 n) (.sl 0 ds) (ls++[(true,l)])
 | agg {cs ds ls}:eO t cs ds ls→Tr t (.agg cs) (.agg ds) ls
 | jY {cs ds ls}:eO t cs ds ls→Tr t (.jY cs) (.jY ds) ls
inductive eO (t:S):List V→List V→List (Bool × Nat)→Prop
 | nil:eO t [] [] []
 | cons {v vs d ds a b}:Tr t v d a→eO t vs ds b→eO t (v::vs) (d::ds) (a++b)
end
def YC (E:Env) (t:S) (p:Bool × Nat) (g:Nat):Prop :=
 (p.1=true∧(t.vars p.2).isSome=true∧E.loc p.2=some g)∨(p.1=false∧(t.xJ p.2).isSome=true∧∃ F,E.fam p.2=some F∧F.blk=some g)
inductive aG (E:Env) (t:S):List (Bool × Nat)→List Nat→Prop
 | nil:aG E t [] []
 | cons {p ps g gs}:YC E t p g→aG E t ps gs→aG E t (p::ps) (g::gs)
theorem aG.append {E:Env} {t:S}:∀ {a:List (Bool × Nat)} {ga:List Nat} {b:List (Bool × Nat)} {gb:List Nat},aG E t a ga→aG E t b gb→aG E t (a++b) (ga++gb)
 | _,_,_,_,.nil,k=>k
 | _,_,_,_,.cons h r,k => .cons h (r.append k)
theorem YC.inj {E:Env} {t:S} (hr:xg E t) {p q:Bool × Nat} {g:Nat} (h:YC E t p g) (k:YC E t q g):p=q:=by
 obtain ⟨b,l⟩:=p
 obtain ⟨b',l'⟩:=q
 rcases h with ⟨rfl,h2,h3⟩ | ⟨rfl,h2,F,h3,h4⟩ <;> rcases k with ⟨rfl,k2,k3⟩ | ⟨rfl,k2,F',k3,k4⟩
 · simp only at h2 h3 k2 k3
   rw [hr.vv l l' g h2 k2 h3 k3]
 · exact (hr.jL l g l' F' h2 h3 k2 k3 k4).elim
 · exact (hr.jL l' g l F k2 k3 h2 h3 h4).elim
 · simp only at h2 h3 k2 k3
   rw [hr.vL l l' F F' g h2 k2 h3 k3 h4 k4]
theorem aG.mem {E:Env} {t:S}:∀ {ps:List (Bool × Nat)} {gs:List Nat},aG E t ps gs→∀ {g},g∈gs→∃ p∈ps,YC E t p g
 | _,_,.nil,g,h=>by cases h
 | _,_,.cons h r,g,hg=>by
   rcases List.mem_cons.1 hg with rfl | hg
   · exact ⟨_,by simp,h⟩
   · obtain ⟨p, hp, h2⟩ := aG.mem r hg
     exact ⟨p,by simp [hp],h2⟩
theorem aG.nodup {E:Env} {t:S} (hr:xg E t):∀ {ps:List (Bool × Nat)} {gs:List Nat},aG E t ps gs→ps.Nodup→gs.Nodup
 | _,_,.nil,_=>List.nodup_nil
 | _,_,.cons h r,hn=>by
   rw [List.nodup_cons] at hn ⊢
   refine ⟨fun hg=>?_,aG.nodup hr r hn.2⟩
   obtain ⟨q,hq,h2⟩:=r.mem hg
   exact hn.1 (YC.inj hr h h2 ▸ hq)
theorem eO.len {t:S}:∀ {vs ds:List V} {ls:List (Bool × Nat)},eO t vs ds ls→ds.length=vs.length
 | _,_,_,.nil=>rfl
 | _,_,_,.cons _ r=>by simp [eO.len r]
mutual
theorem Tr.world {E:Env} {t:S} (hr:xg E t):∀ {v d:V} {ls:List (Bool × Nat)},Tr t v d ls→∀ {val:Value},qy E v val→∃ gs,WT E.w d val gs∧aG E t ls gs
 | _,_,_,.qP h,val,k=>by
   refine ⟨[],?_,.nil⟩
   cases k with
   | int a b=>exact .int a b
   | bool=>exact .bool
   | str a=>exact .str a
   | kC=>exact .kC
   | und=>exact .und
   | _=>cases h
 | _,_,_,.jo,val,k=>by cases k with | jo=>exact ⟨[],.UA,.nil⟩
 | _,_,_,.zl,val,k=>by cases k with | zl=>exact ⟨[],.UA,.nil⟩
 | _,_,_,.emp,val,k=>by
   cases k with
   | sl a b c r sg f=>exact ⟨[],.emp c,.nil⟩
   | iy f=>exact ⟨[],.UA,.nil⟩
 | _,_,_,.F8,val,k=>by cases k with
   | qJ a b c d=>exact ⟨[],.emp c,.nil⟩
   | jS=>exact ⟨[],.UA,.nil⟩
 | _,_,_,.sl (us:=us) (ds:=ds) h1 h2 h3 h4 h5,val,k=>by
   obtain ⟨F,g,vals,sz,a1,a2,a3,rfl,a5,a6,ha,hrl,hsg,arr,e,fr,k1,k2,k3⟩:=UY hr k h1 ⟨_,h4⟩
   obtain ⟨gs,m1,m2⟩:=eO.world hr h5 hrl
   have hfl:=jT ha
   have hcap:us.length*sz≤F.cap*sz:=Nat.mul_le_mul_right _ a5
   have Rk:(V.flat us).length=us.length*sz:=hfl
   have hvl:=hrl.length
   have hdl:=h5.len
   have hst:=UU hsg k1
   rw [h2]
   refine ⟨gs++[g],.sl (by cases ds with | nil=>(have:us=[]:=List.length_eq_zero_iff.1 h2);rw [this] at h1;exact h1 | cons _ _=>rfl) h3 (by omega) a6 k1 (by omega) (fun o ho=>k3 o (by omega)) ?_,m2.append (.cons (.inr ⟨rfl,by simp only;rw [h4];rfl,F,a1,a2⟩) .nil)⟩
   rw [hdl, ← hvl,hst]
   exact m1
 | _,_,_,.qJ (l:=l) (us:=us) (ds:=ds) h1 h2 h3 h4 h5,val,k=>by
   cases k with
   | jS=>rw [List.length_eq_zero_iff.1 h2.symm] at h1;cases h1
   | @qJ _ _ _ _ cap g hg hle hmx hex =>
     subst h2
     obtain ⟨g',arr,e,fr,a1,a2⟩:=hr.var _ _ h4
     rw [hg] at a1
     cases a1
     obtain ⟨gs,m1,m2⟩:=eO.world hr h5 a2.rep
     have hdl:=h5.len
     have hle2:=a2.le
     refine ⟨gs++[g],.sl h1 h3 hle hmx a2.heap (by omega) (fun o ho=>a2.free o (by omega)) ?_,m2.append (.cons (.inl ⟨rfl,by simp only;rw [h4];rfl,hg⟩) .nil)⟩
     rw [hdl]
     exact m1
 | _,_,_,.agg h,val,k=>by
   cases k with
   | agg r =>
     obtain ⟨gs,a,b⟩:=eO.world hr h r
     exact ⟨gs,.agg a,b⟩
 | _,_,_,.jY h,val,k=>by
   cases k with
   | jY r =>
     obtain ⟨gs,a,b⟩:=eO.world hr h r
     exact ⟨gs,.jY a,b⟩
theorem eO.world {E:Env} {t:S} (hr:xg E t):∀ {vs ds:List V} {ls:List (Bool × Nat)},eO t vs ds ls→∀ {vals:List Value},ql E vs vals→∃ gs,YB E.w ds vals gs∧aG E t ls gs
 | _,_,_,.nil,vals,k=>by cases k;exact ⟨[],.nil,.nil⟩
 | _,_,_,.cons h r,vals,k=>by
   cases k with
   | cons k1 k2 =>
     obtain ⟨ga,a1,a2⟩:=Tr.world hr h k1
     obtain ⟨gb,b1,b2⟩:=eO.world hr r k2
     exact ⟨ga++gb,.cons a1 b1,a2.append b2⟩
end
def Own2 (d v:V) (t:S):Prop:=∃ ls,Tr t v d ls∧ls.Nodup
theorem VCalls.Wm {P:Program} {f:FuncId} {vs ds:List V} {s:S} {d:V} (hrd:uZ s vs ds) (h:∀ t,VCalls P f ds t (fun v t'=>Own2 d v t')) :
   VCalls P f vs s (fun v s'=>v=(kH s.next d).1∧s'=s.ext (jv s.next d)):=by
 intro E vals h1 h2
 let t:S:={ vars:=fun _=>none,xJ:=fun _=>none,next:=s.next }
 have ht:xg (jN E s) t:=by
   refine ⟨fun l cs hl=>(by cases hl),fun l l' g hl=>(by cases hl),fun id n sz hid=>(by cases hid),fun id id' F F' g hid=>(by cases hid),fun l g id F hl=>(by cases hl),h1.fresh,h1.pos,fun g o i=>?_⟩
   rcases i with i | ⟨l,cs,hv,hg,ho⟩
   · exact h1.vY g o i
   · obtain ⟨g', arr, e, fr, k1, k2⟩ := h1.var l cs hv
     rw [hg] at k1
     cases k1
     have:=k2.le
     exact ⟨arr[o]'(by omega),by show E.w.cell? _=_;rw [cell_of_row E.w _ _ arr e fr k2.heap];simp⟩
 have hnt:∀ k,¬ mH (jN E s) t k:=by
   rintro k (⟨l,hl,_⟩ | ⟨id,F,hl,_⟩) <;> cases hl
 refine (h t (jN E s) vals ht (uZ.rep h1 hrd h2)).mono ?_
 rintro e w' ⟨E2,v,val,t',rfl,rfl,⟨ls,Rj,Rv⟩,k,r,st⟩
 obtain ⟨gs,wt,li⟩:=Tr.world k Rj r
 have hnd:=li.nodup k Rv
 have hsame:∀ b,b<E.w.heap.size→E2.w.heap[b]?=E.w.heap[b]?:=fun b hb=>st.block b hb (hnt b)
 have hfresh:∀ g,g∈gs→E.w.heap.size≤g:=by
   intro g hg
   obtain ⟨p,_,hp⟩:=li.mem hg
   rcases Nat.lt_or_ge g E.w.heap.size with hlt | hge
   · refine (hnt g (st.track g hlt ?_)).elim
     rcases hp with ⟨_,a,b⟩ | ⟨_,a,F,b,c⟩
     · exact .inl ⟨_,a,b⟩
     · exact .inr ⟨_,F,a,b,c⟩
   · exact hge
 let os:=(kH s.next d).2
 let E3:Env:={ w:=E2.w,vY:=E.vY,loc:=fun l=>if l<s.next then E.loc l else gs[l - s.next]?,fam:=fun l=>if l<s.next then E.fam l else none }
 have Vb:∀ l,l<s.next→E3.loc l=E.loc l:=fun l hl=>by show (if l<s.next then E.loc l else _)=_;rw [if_pos hl]
 have Bb:∀ j,E3.loc (s.next+j)=gs[j]?:=fun j=>by
   show (if s.next+j<s.next then E.loc (s.next+j) else _)=_
   rw [if_neg (by omega),Nat.add_sub_cancel_left]
 have YD:∀ l,l<s.next→E3.fam l=E.fam l:=fun l hl=>by show (if l<s.next then E.fam l else none)=_;rw [if_pos hl]
 obtain ⟨hrep,hlen,hvar⟩:=wt.place (E3:=E3) s.next fun j g hj=>by rw [Bb,hj]
 have hlt:∀ l,(s.vars l).isSome=true→l<s.next:=fun l hl=>by
   rcases Nat.lt_or_ge l s.next with h | h
   · exact h
   · rw [(h1.yH h).1] at hl;cases hl
 have rF:∀ l,(s.xJ l).isSome=true→l<s.next:=fun l hl=>by
   rcases Nat.lt_or_ge l s.next with h | h
   · exact h
   · rw [(h1.yH h).2] at hl;cases hl
 have hlt2:∀ l g,E.loc l=some g→l<s.next:=fun l g hl=>by
   rcases Nat.lt_or_ge l s.next with h | h
   · exact h
   · rw [(h1.fresh l h).1] at hl;cases hl
 have KL:∀ l F,E.fam l=some F→l<s.next:=fun l g hl=>by
   rcases Nat.lt_or_ge l s.next with h | h
   · exact h
   · rw [(h1.fresh l h).2] at hl;cases hl
 have ev:jc E E3:=⟨fun _ _ i=>i,fun g o i=>by
     have:=h1.lG i
     show E2.w.cell? _=_
     simp only [World.cell?,hsame g this],fun l g hl=>(Vb l (hlt2 l g hl)).trans hl,fun id F hF=>⟨F,(YD id (KL id F hF)).trans hF,Nat.le_refl _,fun _=>rfl⟩⟩
 have hth:jv s.next d=os.map fun p=>Own.var p.2:=rfl
 have hvars:∀ l,l<s.next→(s.ext (jv s.next d)).vars l=s.vars l:=fun l hl=>kg _ _ hl
 have F9:∀ j,(s.ext (jv s.next d)).vars (s.next+j)=(os[j]?).map (·.2):=fun j=>by
   rw [fO,hth,List.getElem?_map]
   cases os[j]? <;> rfl
 have rZ:∀ l q,(s.ext (jv s.next d)).xJ l=some q→s.xJ l=some q:=by
   intro l q hq
   simp only [S.ext] at hq
   split at hq
   · exact hq
   · rw [hth, List.getElem?_map] at hq
     cases hc:os[l - s.next]? with
     | none=>rw [hc] at hq;cases hq
     | some p=>rw [hc] at hq;cases hq
 have hnew:∀ j cs,(s.ext (jv s.next d)).vars (s.next+j)=some cs→∃ p g,os[j]?=some p∧p.2=cs∧gs[j]?=some g:=by
   intro j cs hj
   rw [F9] at hj
   obtain ⟨p,hp,rfl⟩:=Option.map_eq_some_iff.1 hj
   have:j<gs.length:=by rw [← hlen];exact (List.getElem?_eq_some_iff.1 hp).1
   exact ⟨p,gs[j],hp,rfl,List.getElem?_eq_getElem this⟩
 have hsplit:∀ l,l<s.next∨∃ j,l=s.next+j:=fun l=>by
   rcases Nat.lt_or_ge l s.next with h | h
   · exact .inl h
   · exact .inr ⟨l - s.next,by omega⟩
 have hnl:∀ j g,E3.loc (s.next+j)=some g→gs[j]?=some g∧E.w.heap.size≤g:=by
   intro j g hg
   rw [Bb] at hg
   exact ⟨hg,hfresh g (List.mem_of_getElem? hg)⟩
 have hrel:xg E3 (s.ext (jv s.next d)):=by
   refine ⟨fun l cs hl=>?_,fun l l' g hl hl' hg hg'=>?_,fun id n sz hid=>?_,fun id id' F F' g hid Yr hF hF'=>?_,fun l g id F hl hg hid hF hb=>?_,fun l hl=>?_,by have:=h1.pos;rw [q8];omega,fun g o i=>?_⟩
   · rcases hsplit l with hll | ⟨j, rfl⟩
     · rw [hvars l hll] at hl
       obtain ⟨g,arr,e,fr,m1,m2⟩:=h1.var l cs hl
       exact ⟨g,arr,e,fr,(Vb l hll).trans m1,⟨(hsame g (Array.getElem?_eq_some_iff.1 m2.heap).1).trans m2.heap,m2.rep.xQ ev,m2.le,m2.free,m2.vY⟩⟩
     · obtain ⟨p, g, hp, rfl, hg⟩ := hnew j cs hl
       obtain ⟨arr,e,fr,a3,a4,a5,a6⟩:=hvar j g p hg hp
       refine ⟨g,arr,e,fr,by rw [Bb,hg],⟨a3,a4,a5,a6,fun o i=>?_⟩⟩
       have:=hfresh g (List.mem_of_getElem? hg)
       have:=h1.lG i
       omega
   · rcases hsplit l with hll | ⟨j, rfl⟩
     · rw [hvars l hll] at hl
       rw [Vb l hll] at hg
       rcases hsplit l' with UC | ⟨j',rfl⟩
       · rw [hvars l' UC] at hl'
         rw [Vb l' UC] at hg'
         exact h1.vv l l' g hl hl' hg hg'
       · obtain ⟨_, hge⟩ := hnl j' g hg'
         have:=h1.lH hl hg
         omega
     · obtain ⟨b1, hge⟩ := hnl j g hg
       rcases hsplit l' with UC | ⟨j',rfl⟩
       · rw [hvars l' UC] at hl'
         rw [Vb l' UC] at hg'
         have:=h1.lH hl' hg'
         omega
       · obtain ⟨c1, _⟩ := hnl j' g hg'
         have hj:j<gs.length:=(List.getElem?_eq_some_iff.1 b1).1
         rw [(List.getElem?_inj hj hnd).1 (b1.trans c1.symm)]
   · have KE := rZ id _ hid
     obtain ⟨h00,F,m1,m2,m3,m4,m5,m6⟩:=h1.fam id n sz KE
     refine ⟨h00,F,(YD id (rF id (by rw [KE];rfl))).trans m1,m2,m3,m4,m5,fun g hg=>?_⟩
     obtain ⟨arr,e,fr,m7,m8⟩:=m6 g hg
     exact ⟨arr,e,fr,(hsame g (Array.getElem?_eq_some_iff.1 m7).1).trans m7,m8⟩
   · obtain ⟨q, hq⟩ := Option.isSome_iff_exists.1 hid
     obtain ⟨q',hq'⟩:=Option.isSome_iff_exists.1 Yr
     have a1:=rZ id q hq
     have a2:=rZ id' q' hq'
     rw [YD id (rF id (by rw [a1];rfl))] at hF
     rw [YD id' (rF id' (by rw [a2];rfl))] at hF'
     exact h1.vL id id' F F' g (by rw [a1];rfl) (by rw [a2];rfl) hF hF'
   · obtain ⟨q, hq⟩ := Option.isSome_iff_exists.1 hid
     have a1:=rZ id q hq
     rw [YD id (rF id (by rw [a1];rfl))] at hF
     rcases hsplit l with hll | ⟨j,rfl⟩
     · rw [hvars l hll] at hl
       rw [Vb l hll] at hg
       exact h1.jL l g id F hl hg (by rw [a1];rfl) hF hb
     · obtain ⟨_, hge⟩ := hnl j g hg
       have:=h1.sD (by rw [a1];rfl) hF hb
       omega
   · rw [q8] at hl
     refine ⟨?_,?_⟩
     · obtain ⟨j, rfl⟩ : ∃ j, l = s.next + j := ⟨l - s.next, by omega⟩
       rw [Bb]
       exact List.getElem?_eq_none (by have hlen':os.length=gs.length:=hlen;rw [hth,List.length_map] at hl;omega)
     · show (if l < s.next then E.fam l else none) = none
       rw [if_neg (by omega)]
   · obtain ⟨x, hx⟩ := h1.vY g o i
     exact ⟨x,(ev.cell g o i).trans hx⟩
 refine ⟨E3,(kH s.next d).1,val,s.ext (jv s.next d),rfl,rfl,⟨rfl,rfl⟩,hrel,hrep,
   ⟨ev,st.os,st.tape,st.output,st.size,fun b hb _=>hsame b hb,fun q hq htr=>?_,by rw [q8];omega⟩⟩
 rcases htr with ⟨l,hl,hg⟩ | ⟨id,F,hl,hF,hg⟩
 · rcases hsplit l with hll | ⟨j, rfl⟩
   · rw [hvars l hll] at hl
     rw [Vb l hll] at hg
     exact .inl ⟨l,hl,hg⟩
   · obtain ⟨_, hge⟩ := hnl j q hg
     have:q<E.w.heap.size:=hq
     omega
 · obtain ⟨q', hq'⟩ := Option.isSome_iff_exists.1 hl
   have a1:=rZ id q' hq'
   rw [YD id (rF id (by rw [a1];rfl))] at hF
   exact .inr ⟨id,F,by rw [a1];rfl,hF,hg⟩
end Go.Proofs.YtolhegocbkckdaaGreat
namespace Go.Proofs.YtolhegocbkckdaaGreat
open Go
def Zj:List V→Bool
 | []=>true
 | x::xs=>xs.all (fun y=>y.cells.length == x.cells.length)
theorem rQ {xs:List V} (h:Zj xs=true):∃ sz,∀ x∈xs,x.cells.length=sz:=by
 cases xs with
 | nil=>exact ⟨0,fun x hx=>by cases hx⟩
 | cons x xs =>
   refine ⟨x.cells.length,fun y hy=>?_⟩
   rcases List.mem_cons.1 hy with rfl | hy
   · rfl
   · simp only [Zj, List.all_eq_true, beq_iff_eq] at h
     exact h y hy
theorem QE {xs:List V} {sz:Nat} (h:∀ x∈xs,x.cells.length=sz):Zj xs=true:=by
 cases xs with
 | nil=>rfl
 | cons x xs =>
   simp only [Zj,List.all_eq_true,beq_iff_eq]
   intro y hy
   rw [h y (by simp [hy]),h x (by simp)]
mutual
def V.plain:V→Bool
 | .agg cs=>V.xV cs
 | .sl id xs=>(id == 0&&Zj xs)&&V.xV xs
 | .int _ _ | .bool _ | .str _ | .kC | .und=>true
 | .jY _ | .ptr _ _ | .xG _ _ | .jo | .zl | .qJ _ _ _ _ | .fn _ _ | .raw _=>false
def V.xV:List V→Bool
 | []=>true
 | v::vs=>V.plain v&&V.xV vs
end
theorem V.aX:∀ vs:List V,V.xV vs=vs.all V.plain
 | []=>rfl
 | v::vs=>by simp [V.xV,V.aX vs]
mutual
def cv:V→Nat
 | .agg cs=>bV cs
 | .jY vs=>bV vs
 | .sl _ xs=>if xs.isEmpty then 0 else bV xs+1
 | .int _ _ | .bool _ | .str _ | .ptr _ _ | .xG _ _ | .kC | .jo | .zl | .qJ _ _ _ _ | .fn _ _ | .und | .raw _=>0
def bV:List V→Nat
 | []=>0
 | v::vs=>cv v+bV vs
end
mutual
theorem aH:∀ (v:V) (n:Nat),(kH n v).2.length=cv v
 | .agg cs,n=>by simp only [kH,cv];exact uq cs n
 | .jY cs,n=>by simp only [kH,cv];exact uq cs n
 | .sl id xs,n=>by
   unfold kH cv
   cases xs.isEmpty with
   | true=>rfl
   | false=>simp [uq xs n]
 | .jo,_ | .zl,_ | .int _ _,_ | .bool _,_ | .str _,_ | .ptr _ _,_ | .xG _ _,_ | .kC,_ | .qJ _ _ _ _,_ | .fn _ _,_ | .und,_ | .raw _,_=>rfl
theorem uq:∀ (vs:List V) (n:Nat),(xZ n vs).2.length=bV vs
 | [],_=>rfl
 | v::vs,n=>by simp only [xZ,bV,List.length_append,aH v n,uq vs]
end
theorem Vd:∀ (a b:List V),bV (a++b)=bV a+bV b
 | [],b=>by simp [bV]
 | x::a,b=>by simp only [List.cons_append,bV,Vd a b];omega
@[simp] theorem iR (n:Nat) (d:V):(jv n d).length=cv d:=by simp [jv,aH]
def u7 (n:Nat) (ds:List V):List Own:=(xZ n ds).2.map fun p => .var p.2
@[simp] theorem UD (n:Nat) (d:List V):(u7 n d).length=bV d:=by simp [u7,uq]
@[simp] theorem CW (n:Nat):u7 n []=[]:=rfl
theorem YE (n:Nat) (ds:List V) (d:V):xZ n (ds++[d])=((xZ n ds).1++[(kH (n+bV ds) d).1],(xZ n ds).2++(kH (n+bV ds) d).2):=by
 rw [bK,uq]
 simp [xZ]
theorem Bc (n:Nat) (ds:List V) (d:V):u7 n (ds++[d])=u7 n ds++jv (n+bV ds) d:=by
 simp [u7,jv,YE]
theorem E8 (n:Nat) (id:Nat) {ds:List V} (h:ds.isEmpty=false):jv n (.sl id ds)=u7 n ds++[.var (V.flat (xZ n ds).1)]:=by
 unfold jv u7 kH
 rw [h]
 simp
theorem Zv (n:Nat) (id:Nat) {ds:List V} (h:ds.isEmpty=false):(kH n (.sl id ds)).1 = .qJ .un (n+bV ds) 0 ds.length:=by
 unfold kH
 rw [h]
 simp [uq]
def uQ (t:S) (n:Nat) (os:List (Nat × List V)):Prop:=∀ (j:Nat) (p:Nat × List V),os[j]?=some p→t.vars (n+j)=some p.2
theorem uQ.left {t:S} {n:Nat} {a b:List (Nat × List V)} (h:uQ t n (a++b)):uQ t n a:=fun j p hj=>h j p (by
 rw [List.getElem?_append_left (List.getElem?_eq_some_iff.1 hj).1];exact hj)
theorem uQ.right {t:S} {n:Nat} {a b:List (Nat × List V)} (h:uQ t n (a++b)):uQ t (n+a.length) b:=fun j p hj=>by
 have:=h (a.length+j) p (by rw [List.getElem?_append_right (by omega),Nat.add_sub_cancel_left];exact hj)
 rw [Nat.add_assoc];exact this
theorem uQ.ext {s:S} {n:Nat} {A B:List Own} {os:List (Nat × List V)} (hn:n=s.next+A.length):uQ (s.ext (A++(os.map (fun p=>Own.var p.2)++B))) n os:=by
 intro j p hj
 have hlt:=(List.getElem?_eq_some_iff.1 hj).1
 have:((A++(os.map (fun p=>Own.var p.2)++B)))[A.length+j]?=some (.var p.2):=by
   rw [List.getElem?_append_right (by omega),Nat.add_sub_cancel_left,List.getElem?_append_left (by simpa using hlt),List.getElem?_map,hj]
   rfl
 rw [hn,Nat.add_assoc,fO,this]
 rfl
def vl (n k:Nat):List (Bool × Nat):=(List.range' n k).map fun l=>(true,l)
theorem iA (n a b:Nat):vl n a++vl (n+a) b=vl n (a+b):=by
 simp only [vl, ← List.map_append]
 congr 1
 exact List.range'_append_1
theorem Ez (n:Nat):[(true,n)]=vl n 1:=rfl
@[simp] theorem Xp {n k:Nat} {p:Bool × Nat}:p∈vl n k↔p.1=true∧n≤p.2∧p.2<n+k:=by
 obtain ⟨b,l⟩:=p
 simp only [vl,List.mem_map,List.mem_range'_1,Prod.mk.injEq]
 constructor
 · rintro ⟨a, ha, h1, h2⟩
   subst h1 h2
   exact ⟨rfl,ha⟩
 · rintro ⟨h1, h2⟩
   exact ⟨l,h2,h1.symm,rfl⟩
theorem K7 (n k:Nat):(vl n k).Nodup:=by
 unfold vl
 rw [List.Nodup,List.pairwise_map]
 exact (List.nodup_range' (s:=n) (n:=k)).imp fun h e=>h (Prod.mk.inj e).2
theorem eO.append {t:S}:∀ {a da b db:List V} {la lb:List (Bool × Nat)},eO t a da la→eO t b db lb→eO t (a++b) (da++db) (la++lb)
 | _,_,_,_,_,_,.nil,k=>k
 | _,_,_,_,_,_,.cons h r,k=>by
   rw [List.append_assoc]
   exact .cons h (r.append k)
mutual
theorem Ve {t:S}:∀ (d:V) (n:Nat),d.plain=true→uQ t n (kH n d).2→Tr t (kH n d).1 d (vl n (cv d))
 | .agg cs,n,h,hv => .agg (Xr cs n h hv)
 | .jY cs,n,h,hv=>by cases h
 | .sl id xs,n,h,hv=>by
   simp only [V.plain,Bool.and_eq_true,beq_iff_eq] at h
   obtain ⟨⟨rfl,h1⟩,h2⟩:=h
   cases he:xs.isEmpty with
   | true =>
     have:xs=[]:=by simpa using he
     subst this
     exact .emp
   | false =>
     obtain ⟨sz,hsz⟩:=rQ h1
     rw [Zv n 0 he]
     have e:cv (.sl 0 xs)=bV xs+1:=by simp only [cv,he,Bool.false_eq_true,if_false]
     rw [e, ← iA, ← Ez]
     unfold kH at hv
     rw [he] at hv
     simp only [Bool.false_eq_true,if_false] at hv
     refine .qJ he rfl hsz ?_ (Zw xs n h2 hv.left)
     have:=hv.right 0 _ rfl
     rw [uq] at this
     exact this
 | .jo,n,h,hv=>by cases h
 | .zl,n,h,hv=>by cases h
 | .int _ _,n,h,hv => .qP rfl
 | .bool _,n,h,hv => .qP rfl
 | .str _,n,h,hv => .qP rfl
 | .kC,n,h,hv => .qP rfl
 | .und,n,h,hv => .qP rfl
 | .ptr _ _,n,h,hv=>by cases h
 | .xG _ _,n,h,hv=>by cases h
 | .qJ _ _ _ _,n,h,hv=>by cases h
 | .fn _ _,n,h,hv=>by cases h
 | .raw _,n,h,hv=>by cases h
theorem Xr {t:S}:∀ (ds:List V) (n:Nat),V.xV ds=true→uQ t n (xZ n ds).2→eO t (xZ n ds).1 ds (vl n (bV ds))
 | [],n,h,hv => .nil
 | d::ds,n,h,hv=>by
   simp only [V.xV,Bool.and_eq_true] at h
   simp only [xZ] at hv ⊢
   rw [bV, ← iA]
   have hr:=hv.right
   rw [aH] at hr ⊢
   exact .cons (Ve d n h.1 hv.left) (Xr ds _ h.2 hr)
theorem Zw {t:S}:∀ (ds:List V) (n:Nat),V.xV ds=true→uQ t n (xZ n ds).2→eO t (V.flat (xZ n ds).1) (V.flat ds) (vl n (bV ds))
 | [],n,h,hv => .nil
 | d::ds,n,h,hv=>by
   simp only [V.xV,Bool.and_eq_true] at h
   simp only [xZ] at hv ⊢
   rw [bV, ← iA,vZ,vZ]
   have hr:=hv.right
   rw [aH] at hr ⊢
   exact (K8 d n h.1 hv.left).append (Zw ds _ h.2 hr)
theorem K8 {t:S}:∀ (d:V) (n:Nat),d.plain=true→uQ t n (kH n d).2→eO t (kH n d).1.cells d.cells (vl n (cv d))
 | .agg cs,n,h,hv=>Xr cs n h hv
 | .jY cs,n,h,hv=>by cases h
 | .sl id xs,n,h,hv=>by
   have:=eO.cons (Ve (.sl id xs) n h hv) .nil
   rw [List.append_nil] at this
   have e:(kH n (.sl id xs)).1.cells=[(kH n (.sl id xs)).1]:=by
     unfold kH
     cases xs.isEmpty <;> rfl
   rw [e]
   exact this
 | .jo,n,h,hv=>by cases h
 | .zl,n,h,hv=>by cases h
 | .int _ _,n,h,hv => .cons (.qP rfl) .nil
 | .bool _,n,h,hv => .cons (.qP rfl) .nil
 | .str _,n,h,hv => .cons (.qP rfl) .nil
 | .kC,n,h,hv => .cons (.qP rfl) .nil
 | .und,n,h,hv => .cons (.qP rfl) .nil
 | .ptr _ _,n,h,hv=>by cases h
 | .xG _ _,n,h,hv=>by cases h
 | .qJ _ _ _ _,n,h,hv=>by cases h
 | .fn _ _,n,h,hv=>by cases h
 | .raw _,n,h,hv=>by cases h
end
mutual
theorem Zy {t:S}:∀ (d:V) (n:Nat),d.plain=true→uQ t n (kH n d).2→Rd t (kH n d).1 d
 | .agg cs,n,h,hv => .agg (Xt cs n h hv)
 | .jY cs,n,h,hv=>by cases h
 | .sl id xs,n,h,hv=>by
   simp only [V.plain,Bool.and_eq_true,beq_iff_eq] at h
   obtain ⟨⟨rfl,h1⟩,h2⟩:=h
   cases he:xs.isEmpty with
   | true =>
     have:xs=[]:=by simpa using he
     subst this
     exact .sl .nil
   | false =>
     obtain ⟨sz,hsz⟩:=rQ h1
     rw [Zv n 0 he]
     unfold kH at hv
     rw [he] at hv
     simp only [Bool.false_eq_true,if_false] at hv
     have hv2:=hv.right 0 _ rfl
     rw [uq] at hv2
     refine .qJ (sz:=sz) (rest:=[]) (by rw [List.append_nil];exact hv2) (uo xs n) ?_ (Xt xs n h2 hv.left)
     have:∀ (ds:List V) (m:Nat),(∀ x∈ds,x.cells.length=sz)→∀ u∈(xZ m ds).1,u.cells.length=sz:=by
       intro ds
       induction ds with
       | nil=>intro m _ u hu;cases hu
       | cons d ds ih =>
         intro m hd u hu
         simp only [xZ,List.mem_cons] at hu
         rcases hu with rfl | hu
         · rw [(dP d m).1,uo];exact hd d (by simp)
         · exact ih _ (fun x hx=>hd x (by simp [hx])) u hu
     exact this xs n hsz
 | .jo,n,h,hv=>by cases h
 | .zl,n,h,hv=>by cases h
 | .int _ _,n,h,hv => .qP rfl
 | .bool _,n,h,hv => .qP rfl
 | .str _,n,h,hv => .qP rfl
 | .kC,n,h,hv => .qP rfl
 | .und,n,h,hv => .qP rfl
 | .ptr _ _,n,h,hv=>by cases h
 | .xG _ _,n,h,hv=>by cases h
 | .qJ _ _ _ _,n,h,hv=>by cases h
 | .fn _ _,n,h,hv=>by cases h
 | .raw _,n,h,hv=>by cases h
theorem Xt {t:S}:∀ (ds:List V) (n:Nat),V.xV ds=true→uQ t n (xZ n ds).2→uZ t (xZ n ds).1 ds
 | [],n,h,hv => .nil
 | d::ds,n,h,hv=>by
   simp only [V.xV,Bool.and_eq_true] at h
   simp only [xZ] at hv ⊢
   exact .cons (Zy d n h.1 hv.left) (Xt ds _ h.2 hv.right)
end
mutual
theorem Rd.plain {t:S}:∀ (d:V),d.plain=true→Rd t d d
 | .agg cs,h => .agg (uZ.plain cs h)
 | .jY cs,h=>by cases h
 | .sl id xs,h=>by
   simp only [V.plain,Bool.and_eq_true,beq_iff_eq] at h
   obtain ⟨⟨rfl,h1⟩,h2⟩:=h
   exact .sl (uZ.plain xs h2)
 | .jo,h=>by cases h
 | .zl,h=>by cases h
 | .int _ _,h => .qP rfl
 | .bool _,h => .qP rfl
 | .str _,h => .qP rfl
 | .kC,h => .qP rfl
 | .und,h => .qP rfl
 | .ptr _ _,h=>by cases h
 | .xG _ _,h=>by cases h
 | .qJ _ _ _ _,h=>by cases h
 | .fn _ _,h=>by cases h
 | .raw _,h=>by cases h
theorem uZ.plain {t:S}:∀ (ds:List V),V.xV ds=true→uZ t ds ds
 | [],_ => .nil
 | d::ds,h=>by
   simp only [V.xV,Bool.and_eq_true] at h
   exact .cons (Rd.plain d h.1) (uZ.plain ds h.2)
end
section
variable {P:Program} {N:Nat} {ops:Array Oper} {l:List Oper} {K:Kn→S→Prop} {L:Kn} {s:S} {xs:List Own} {d:Nat} {ty:TypeId} {p:String} {a:Array Edge}
theorem ext_nil {E:Env} {s:S} (h:xg E s):s.ext []=s:=by
 refine S.ext_eq (fun x=>?_) (fun x=>?_) rfl
 · simp only [S.ext, List.getElem?_nil]
   split
   · rfl
   · exact (h.yH (by omega)).1.symm
 · simp only [S.ext, List.getElem?_nil]
   split
   · rfl
   · exact (h.yH (by omega)).2.symm
theorem VCalls.Gz {f:FuncId} {vs ds:List V} {r:V} (hr:r.qP=true) (hrd:uZ s vs ds) (h:∀ t,VCalls P f ds t (fun v t'=>v=r∧t'=t)):VCalls P f vs s (fun v s'=>v=r∧s'=s):=by
 have e1:∀ n,kH n r=(r,[]):=fun n=>by cases r <;> first | rfl | cases hr
 have:=VCalls.Wm (d:=r) hrd fun t=>(h t).mono fun v t' hv=>by
   obtain ⟨rfl,rfl⟩:=hv
   exact ⟨[],.qP hr,List.nodup_nil⟩
 intro E vals h1 h2
 have e2:s.ext []=s:=ext_nil h1
 refine (this.mono fun v s' hv=>?_) E vals h1 h2
 obtain ⟨rfl,rfl⟩:=hv
 rw [jv,e1]
 exact ⟨rfl,e2⟩
end
end Go.Proofs.YtolhegocbkckdaaGreat
namespace Go.Proofs.YtolhegocbkckdaaGreat
open Go
def Pv:Nat→Int→List UInt8→List UInt8
 | 0,_,out=>out
 | f+1,k,out=>if 0<k then Pv f (IntKind.i64.wrap (k.tdiv 10)) (UInt8.ofNat (IntKind.u8.wrap (IntKind.i64.wrap (48+k.tmod 10))).toNat::out) else out
def mt (k:Int):List UInt8:=if k≤0 then [109,48] else 109::Pv 20 k []
mutual
def mkV:V→Int→V
 | .int _ _,k => .int .i64 k
 | .bool _,k => .bool (decide (k.tmod 3=0))
 | .str _,k => .str (mt k)
 | .agg cs,k => .agg (mkL cs k)
 | .sl id xs,k => .sl id (mkL xs k)
 | .jY vs,_ => .jY vs
 | .ptr l o,_ => .ptr l o
 | .xG cs o,_ => .xG cs o
 | .kC,_ => .kC
 | .jo,_ => .jo
 | .zl,_ => .zl
 | .qJ x l o n,_ => .qJ x l o n
 | .fn f cs,_ => .fn f cs
 | .und,_ => .und
 | .raw v,_ => .raw v
def mkL:List V→Int→List V
 | [],_=>[]
 | v::vs,k=>mkV v k::mkL vs (nk v k)
def nk:V→Int→Int
 | .int _ _,k=>k+1
 | .bool _,k=>k+1
 | .str _,k=>k+1
 | .agg cs,k=>JE cs k
 | .sl _ xs,k=>JE xs k
 | .jY _,k=>k
 | .ptr _ _,k=>k
 | .xG _ _,k=>k
 | .kC,k=>k
 | .jo,k=>k
 | .zl,k=>k
 | .qJ _ _ _ _,k=>k
 | .fn _ _,k=>k
 | .und,k=>k
 | .raw _,k=>k
def JE:List V→Int→Int
 | [],k=>k
 | v::vs,k=>JE vs (nk v k)
end
mutual
theorem Gq:∀ (v:V) (k:Int),k≤nk v k
 | .int _ _,k=>by simp only [nk];omega
 | .bool _,k=>by simp only [nk];omega
 | .str _,k=>by simp only [nk];omega
 | .agg cs,k=>by simp only [nk];exact Vf cs k
 | .sl _ xs,k=>by simp only [nk];exact Vf xs k
 | .jY _,k | .ptr _ _,k | .xG _ _,k | .kC,k | .jo,k | .zl,k | .qJ _ _ _ _,k | .fn _ _,k | .und,k | .raw _,k=>by simp only [nk];omega
theorem Vf:∀ (vs:List V) (k:Int),k≤JE vs k
 | [],k=>by simp only [JE];omega
 | v::vs,k=>by
   have h1:=Gq v k
   have h2:=Vf vs (nk v k)
   simp only [JE];omega
end
theorem mkL_append:∀ (a b:List V) (k:Int),mkL (a++b) k=mkL a k++mkL b (JE a k)
 | [],b,k=>rfl
 | x::a,b,k=>by simp only [List.cons_append,mkL,JE,mkL_append a b]
theorem Vg:∀ (a b:List V) (k:Int),JE (a++b) k=JE b (JE a k)
 | [],b,k=>rfl
 | x::a,b,k=>by simp only [List.cons_append,JE,Vg a b]
theorem mkL_length:∀ (a:List V) (k:Int),(mkL a k).length=a.length
 | [],k=>rfl
 | x::a,k=>by simp only [mkL,List.length_cons,mkL_length a]
theorem mkL_isEmpty (a:List V) (k:Int):(mkL a k).isEmpty=a.isEmpty:=by cases a <;> rfl
mutual
theorem mk_cv:∀ (v:V) (k:Int),cv (mkV v k)=cv v
 | .agg cs,k=>by simp only [mkV,cv,mkL_cv cs k]
 | .sl _ xs,k=>by simp only [mkV,cv,mkL_cv xs k,mkL_isEmpty]
 | .int _ _,k | .bool _,k | .str _,k | .jY _,k | .ptr _ _,k | .xG _ _,k | .kC,k | .jo,k | .zl,k | .qJ _ _ _ _,k | .fn _ _,k | .und,k | .raw _,k=>by simp only [mkV,cv]
theorem mkL_cv:∀ (vs:List V) (k:Int),bV (mkL vs k)=bV vs
 | [],k=>rfl
 | v::vs,k=>by simp only [mkL,bV,mk_cv v k,mkL_cv vs]
end
theorem mk_cells_len (v:V) (k:Int):(mkV v k).cells.length=v.cells.length:=by
 cases v <;> simp [mkV,V.cells,mkL_length]
theorem YF (n:Nat) (id:Nat) (xs:List V) (k:Int):(kH n (mkV (.sl id xs) k)).1=(kH n (.sl id xs)).1:=by
 simp only [mkV]
 cases h:xs.isEmpty with
 | true =>
   have:xs=[]:=by simpa using h
   subst this
   rfl
 | false=>rw [Zv n id h,Zv n id (by rw [mkL_isEmpty];exact h),mkL_cv,mkL_length]
def S.blk (s:S) (n:Nat) (B:List (Nat × List V)):S:={ s with vars:=fun l=>if n≤l∧l<n+B.length then (B[l - n]?).map (·.2) else s.vars l }
def S.mb (t:S) (n:Nat) (D:List (Nat × List V)) (l0:Nat) (C:List V):S:=(t.blk n D).qL l0 C
theorem Mq (t:S) (n:Nat):t.blk n []=t:=by
 refine S.ext_eq (fun x=>?_) (fun _=>rfl) rfl
 simp only [S.blk,List.length_nil,Nat.add_zero]
 rw [if_neg (by omega)]
def CY (P:Program) (f:FuncId) (d:V):Prop:=∀ (t:S) (n:Nat) (k:Int),uQ t n (kH n d).2→0≤k→nk d k≤4000000000000 →
 VCalls P f [(kH n d).1,.int .i64 k] t (fun v t'=>v = .int .i64 (nk d k)∧t'=t.blk n (kH n (mkV d k)).2)
section
variable {P:Program} {N:Nat} {ops:Array Oper} {l:List Oper} {K:Kn→S→Prop} {L:Kn} {t:S} {tt:BT} {d:Nat} {ty:TypeId} {p:String} {a:Array Edge} {n l0 q:Nat} {D:List (Nat × List V)} {CA ce CZ:List V}
theorem Nk:(t.mb n D l0 CA).vars l0=some CA:=by simp [S.mb,S.qL]
theorem UE {f:Nat} {sz:Nat} {agg:Bool} {v:V} (h:gq ce f sz agg=some v):eD (CA++(ce++CZ)) (CA.length+f) sz agg=some v:=by
 have h:=aD h
 unfold eD at h ⊢
 split at h
 · rename_i hle
   rw [if_pos (by simp;omega)]
   have e1:(CA++(ce++CZ)).drop (CA.length+f)=ce.drop f++CZ:=by
     rw [List.drop_append,List.drop_of_length_le (by omega),List.nil_append,Nat.add_sub_cancel_left,List.drop_append,show f - ce.length=0 by omega,List.drop_zero]
   have e2:(ce.drop f++CZ).take sz=(ce.drop f).take sz:=by rw [List.take_append_of_le_length (by simp;omega)]
   split at h
   · rw [if_pos ‹_›,e1,e2];exact h
   · rw [if_neg ‹_›]
     have hlt:=(List.getElem?_eq_some_iff.1 h).1
     rw [List.getElem?_append_right (by omega),Nat.add_sub_cancel_left,List.getElem?_append_left hlt]
     exact h
 · cases h
theorem Vh {f:Nat} {vs:List V} (h:f+vs.length≤ce.length):splice (CA++(ce++CZ)) (CA.length+f) vs=CA++(splice ce f vs++CZ):=by
 unfold splice
 rw [List.take_append,List.take_of_length_le (by omega),Nat.add_sub_cancel_left,List.take_append_of_le_length (by omega),List.drop_append,List.drop_of_length_le (by omega),List.nil_append,
   show CA.length+f+vs.length - CA.length=f+vs.length by omega,List.drop_append_of_le_length h]
 simp only [List.append_assoc]
theorem zi.jX {f:FuncId} {fn:Func} {c:Code} {args:List V} {s:S} {R:V→S→Prop} (hf:P.funcs[f]?=some fn) (hb:fn.body=some c) (hn:Nat.ble args.length fn.ntmps=true)
   (h:WL P fn.ntmps c (zh P fn.results.toList R) (Vw 0 args) s):VCalls P f args s R:=by
 refine VCalls.body hf hb (Nat.le_of_ble_eq_true hn) (wY.mono (h.run _ (At.args args)) ?_)
 rintro e σ' s' ⟨L',hat,⟨hq⟩⟩
 cases e with
 | normal=>obtain ⟨vs,h1,h2⟩:=hq;simp only [iO,h1 σ' hat];exact h2
 | ret=>obtain ⟨vs,h1,h2⟩:=hq;simp only [iO,h1 σ' hat];exact h2
 | _=>exact hq.elim
structure Pw (LI:Kn) (S':S) (e:Exit) (L:Kn) (s:S):Prop where
 ex:e = .normal
 sub:qz LI L
 st:s=S'
structure Gx (Q:Exit→Kn→S→Prop) (e:Exit) (L:Kn) (s:S):Prop where
 h:match e with
   | .normal=>False
   | e=>Q e L s
theorem Nj {Q:Exit→Kn→S→Prop} {i:Nat} {s:S} (h:Q (.exit i) L s):Gx Q (.exit i) L s:=⟨h⟩
theorem Nv {Q:Exit→Kn→S→Prop} {s:S} (h:Q .ret L s):Gx Q .ret L s:=⟨h⟩
def R4 (t:S) (n:Nat) (ds:List V) (k:Int) (i:Nat):S :=
 t.mb n (xZ n (mkL (ds.take i) k++ds.drop i)).2 (n+bV ds) (V.flat (xZ n (mkL (ds.take i) k++ds.drop i)).1)
theorem V.K9 (a b:List V):V.flat (a++b)=V.flat a++V.flat b:=by simp [V.flat]
theorem Bd (n:Nat) (cs:List V):kH n (.agg cs)=(.agg (xZ n cs).1,(xZ n cs).2):=rfl
theorem UF (n:Nat):xZ n []=([],[]):=rfl
theorem UG (n:Nat) (k:IntKind) (i:Int) (vs:List V):xZ n (.int k i::vs)=(.int k i::(xZ n vs).1,(xZ n vs).2):=rfl
theorem UH (n:Nat) (b:List UInt8) (vs:List V):xZ n (.str b::vs)=(.str b::(xZ n vs).1,(xZ n vs).2):=rfl
theorem YG (n:Nat) (b:Bool) (vs:List V):xZ n (.bool b::vs)=(.bool b::(xZ n vs).1,(xZ n vs).2):=rfl
theorem Bf (n:Nat) (i:Nat) (xs vs:List V):xZ n (.sl i xs::vs)=((kH n (.sl i xs)).1::(xZ (n+cv (.sl i xs)) vs).1,(kH n (.sl i xs)).2++(xZ (n+cv (.sl i xs)) vs).2):=by rw [xZ,aH]
theorem mk_agg (cs:List V) (k:Int):mkV (.agg cs) k = .agg (mkL cs k):=rfl
theorem mkL_nil (k:Int):mkL [] k=[]:=rfl
theorem mkL_int (i:IntKind) (m:Int) (vs:List V) (k:Int):mkL (.int i m::vs) k = .int .i64 k::mkL vs (k+1):=rfl
theorem mkL_str (b:List UInt8) (vs:List V) (k:Int):mkL (.str b::vs) k = .str (mt k)::mkL vs (k+1):=rfl
theorem mkL_bool (b:Bool) (vs:List V) (k:Int):mkL (.bool b::vs) k = .bool (decide (k.tmod 3=0))::mkL vs (k+1):=rfl
theorem mkL_sl (i:Nat) (xs vs:List V) (k:Int):mkL (.sl i xs::vs) k=mkV (.sl i xs) k::mkL vs (nk (.sl i xs) k):=rfl
end
end Go.Proofs.YtolhegocbkckdaaGreat
namespace Go.Proofs.YtolhegocbkckdaaGreat
open Go
theorem Jz {n m:Nat} (h:n≤m):∀ {v:V},v.under n=true→v.under m=true:=by
 intro v
 refine V.rec (motive_1:=fun v=>v.under n=true→v.under m=true) (motive_2:=fun vs=>V.zO n vs=true→V.zO m vs=true) ?_ ?_ ?_ ?_ ?_ ?_ ?_ ?_ ?_ ?_ ?_ ?_ ?_ ?_ ?_ ?_ ?_ v
 all_goals (intros;simp_all [V.under,V.zO] <;> omega)
theorem pQ {n m:Nat} (h:n≤m) {vs:List V} (hv:V.zO n vs=true):V.zO m vs=true:=by
 rw [V.xB,List.all_eq_true] at hv ⊢
 exact fun v hm=>Jz h (hv v hm)
mutual
theorem YH:∀ (d:V) (n:Nat),d.plain=true→(kH n d).1.under (n+cv d)=true∧∀ p∈(kH n d).2,V.zO (n+cv d) p.2=true
 | .agg cs,n,h=>mW cs n h
 | .jY cs,n,h=>by cases h
 | .sl id xs,n,h=>by
   simp only [V.plain,Bool.and_eq_true,beq_iff_eq] at h
   obtain ⟨⟨rfl,h1⟩,h2⟩:=h
   cases he:xs.isEmpty with
   | true =>
     have:xs=[]:=by simpa using he
     subst this
     exact ⟨rfl,fun p hp=>by cases hp⟩
   | false =>
     obtain ⟨k1,k2⟩:=mW xs n h2
     have e:cv (.sl 0 xs)=bV xs+1:=by simp only [cv,he,Bool.false_eq_true,if_false]
     rw [Zv n 0 he,e]
     refine ⟨by simp only [V.under,decide_eq_true_eq];omega,fun p hp=>?_⟩
     unfold kH at hp
     rw [he] at hp
     simp only [Bool.false_eq_true,if_false,List.mem_append,List.mem_singleton] at hp
     rcases hp with hp | rfl
     · exact pQ (by omega) (k2 p hp)
     · refine pQ (n := n + bV xs) (by omega) ?_
       simp only
       rw [V.xB,List.all_eq_true] at k1 ⊢
       intro v hv
       simp only [V.flat,List.mem_flatMap] at hv
       obtain ⟨u,hu,hv⟩:=hv
       have hu2:=k1 u hu
       cases u with
       | agg cs =>
         simp only [V.cells] at hv
         simp only [V.under] at hu2
         rw [V.xB,List.all_eq_true] at hu2
         exact hu2 v hv
       | raw w =>
         simp only [V.cells,List.mem_map] at hv
         obtain ⟨y,_,rfl⟩:=hv
         rfl
       | _ =>
         simp only [V.cells,List.mem_singleton] at hv
         subst hv
         exact hu2
 | .jo,n,h=>by cases h
 | .zl,n,h=>by cases h
 | .int _ _,n,h=>⟨rfl,fun p hp=>by cases hp⟩
 | .bool _,n,h=>⟨rfl,fun p hp=>by cases hp⟩
 | .str _,n,h=>⟨rfl,fun p hp=>by cases hp⟩
 | .kC,n,h=>⟨rfl,fun p hp=>by cases hp⟩
 | .und,n,h=>⟨rfl,fun p hp=>by cases hp⟩
 | .ptr _ _,n,h=>by cases h
 | .xG _ _,n,h=>by cases h
 | .qJ _ _ _ _,n,h=>by cases h
 | .fn _ _,n,h=>by cases h
 | .raw _,n,h=>by cases h
theorem mW:∀ (ds:List V) (n:Nat),V.xV ds=true→V.zO (n+bV ds) (xZ n ds).1=true∧∀ p∈(xZ n ds).2,V.zO (n+bV ds) p.2=true
 | [],n,h=>⟨rfl,fun p hp=>by cases hp⟩
 | d::ds,n,h=>by
   simp only [V.xV,Bool.and_eq_true] at h
   obtain ⟨a1,a2⟩:=YH d n h.1
   obtain ⟨b1,b2⟩:=mW ds (n+cv d) h.2
   simp only [xZ,aH,bV]
   rw [← Nat.add_assoc]
   refine ⟨?_,fun p hp=>?_⟩
   · simp only [V.zO, Bool.and_eq_true]
     exact ⟨Jz (by omega) a1,b1⟩
   · rcases List.mem_append.1 hp with hp | hp
     · exact pQ (by omega) (a2 p hp)
     · exact b2 p hp
end
section
variable {P:Program} {N:Nat} {ops:Array Oper} {l:List Oper} {K:Kn→S→Prop} {L:Kn} {t:S} {xs:List Own} {d:Nat} {ty:TypeId} {p:String} {a:Array Edge}
end
theorem jR {α : Type} {f : α → V} (sz:Nat) (h1:∀ x,(f x).plain=true) (h2:∀ x,(f x).cells.length=sz) (l:List α):V.plain (.sl 0 (l.map f))=true:=by
 simp only [V.plain,Bool.and_eq_true,beq_self_eq_true,true_and,V.aX,List.all_eq_true,List.mem_map]
 refine ⟨QE (sz:=sz) fun x hx=>?_,?_⟩
 · obtain ⟨y, _, rfl⟩ := List.mem_map.1 hx
   exact h2 y
 · rintro x ⟨y, _, rfl⟩
   exact h1 y
end Go.Proofs.YtolhegocbkckdaaGreat
namespace Go.Proofs.YtolhegocbkckdaaGreat
open Go
variable {s:S} {xs:List Own}
theorem eO.qP {t:S}:∀ {l:List V},l.all V.qP=true→eO t l l []
 | [],_ => .nil
 | v::l,h=>by
   simp only [List.all_cons,Bool.and_eq_true] at h
   exact .cons (.qP h.1) (eO.qP h.2)
theorem mY (n i:Nat) (xs:List V):yt (kH n (.sl i xs)).1=some [(kH n (.sl i xs)).1]:=by
 unfold kH
 cases xs.isEmpty <;> rfl
theorem uj (n i:Nat) (xs:List V):(kH n (.sl i xs)).1.one=true:=by
 unfold kH
 cases xs.isEmpty <;> rfl
theorem YL (n i:Nat) (xs:List V):eH [(kH n (.sl i xs)).1]=true:=by
 unfold kH
 cases xs.isEmpty <;> rfl
theorem kS {v:V} {l:List V} (h:v.one=true) (k:eH l=true):eH (v::l)=true:=by
 unfold eH
 rw [h]
 exact k
section
variable {P:Program} {N:Nat} {ops:Array Oper} {l:List Oper} {K:Kn→S→Prop} {L:Kn} {d:Nat} {ty:TypeId} {p:String} {a:Array Edge}
end
theorem uQ.extC (A:List Own) {m:Nat} {d:V} (hm:m=s.next+A.length):uQ (s.ext (A++jv m d)) m (kH m d).2:=by
 have h:=uQ.ext (s:=s) (A:=A) (B:=[]) (os:=(kH m d).2) hm
 rwa [List.append_nil] at h
end Go.Proofs.YtolhegocbkckdaaGreat
namespace Go.Proofs.YtolhegocbkckdaaGreat
open Go
theorem uL.thaw (s:S) {d:V} (hd:d.plain=true):uL (kH s.next d).1 (s.ext (jv s.next d)) d (s.ext ((jv s.next d).map fun _=>Own.gone)):=by
 intro E val hr hv
 let x:=s.ext (jv s.next d)
 let y:=s.ext ((jv s.next d).map fun _=>Own.gone)
 let t:S:={ vars:=fun l=>if l<s.next then none else x.vars l,xJ:=fun _=>none,next:=x.next }
 have hyv:∀ l cs,y.vars l=some cs→l<s.next∧x.vars l=some cs:=by
   intro l cs h
   change (if l<s.next then s.vars l else Own.cells? ((jv s.next d).map fun _=>Own.gone)[l - s.next]?)=some cs at h
   split at h
   · rename_i hl
     exact ⟨hl,by show (if l<s.next then s.vars l else _)=_;rw [if_pos hl];exact h⟩
   · rw [List.getElem?_map] at h
     cases hq:(jv s.next d)[l - s.next]? with
     | none=>rw [hq] at h;cases h
     | some o=>rw [hq] at h;cases h
 have Nw:∀ l p,y.xJ l=some p→x.xJ l=some p:=by
   intro l p h
   change (if l<s.next then s.xJ l else Own.rG ((jv s.next d).map fun _=>Own.gone)[l - s.next]?)=some p at h
   split at h
   · rename_i hl
     show (if l<s.next then s.xJ l else _)=_
     rw [if_pos hl];exact h
   · rw [List.getElem?_map] at h
     cases hq:(jv s.next d)[l - s.next]? with
     | none=>rw [hq] at h;cases h
     | some o=>rw [hq] at h;cases h
 have Mx:∀ l cs,t.vars l=some cs→s.next≤l∧x.vars l=some cs:=by
   intro l cs h
   change (if l<s.next then none else x.vars l)=some cs at h
   split at h
   · cases h
   · exact ⟨by omega,h⟩
 have hyn:y.next=x.next:=by show s.next+_=s.next+_;rw [List.length_map]
 have ht:xg E t:=hr.weaken (fun l cs h=>(Mx l cs h).2) (fun l p h=>by cases h) (Nat.le_refl _)
 have hy:xg E y:=hr.weaken (fun l cs h=>(hyv l cs h).2) Nw (Nat.le_of_eq hyn.symm)
 have hrd:Rd t (kH s.next d).1 d:=Zy d s.next hd fun j p hj=>by
   show (if s.next+j<s.next then none else x.vars (s.next+j))=_
   rw [if_neg (by omega)]
   exact uQ.extC (s:=s) [] (d:=d) (m:=s.next) (by simp) j p hj
 refine ⟨jN E t,rfl,⟨⟨fun _ _ i => .inl i,fun _ _ _=>rfl,fun _ _ h=>h,fun id F h=>⟨F,h,Nat.le_refl _,fun _=>rfl⟩⟩,rfl,rfl,rfl,Nat.le_refl _,fun _ _ _=>rfl,fun k hk tr=>?_,Nat.le_of_eq hyn.symm⟩,?_,Rd.rep ht hrd hv⟩
 · rcases tr with ⟨l, hl, hg⟩ | ⟨id, F, hl, hF, hb⟩
   · obtain ⟨cs, hcs⟩ := Option.isSome_iff_exists.1 hl
     exact .inl ⟨l,by rw [(hyv l cs hcs).2];rfl,hg⟩
   · obtain ⟨p, hp⟩ := Option.isSome_iff_exists.1 hl
     exact .inr ⟨id,F,by rw [Nw id p hp];rfl,hF,hb⟩
 · refine ⟨fun l cs hl => ?_, hy.vv, fun id n sz hid => ?_, hy.vL, hy.jL, hy.fresh, hy.pos, fun g o i => ?_⟩
   · obtain ⟨g, arr, e, fr, h1, h2⟩ := hy.var l cs hl
     obtain ⟨hlt,hx⟩:=hyv l cs hl
     refine ⟨g,arr,e,fr,h1,h2.heap,h2.rep.xQ (E':=jN E t) ⟨fun _ _ i=>Or.inl i,fun _ _ _=>rfl,fun _ _ h=>h,fun id F h=>⟨F,h,Nat.le_refl _,fun _=>rfl⟩⟩,h2.le,h2.free,fun o i=>?_⟩
     rcases i with i | ⟨l',cs',hl',hg',_⟩
     · exact h2.vY o i
     · obtain ⟨hge, hx'⟩ := Mx l' cs' hl'
       have:=hr.vv l l' g (by show (x.vars l).isSome=true;rw [hx];rfl) (by show (x.vars l').isSome=true;rw [hx'];rfl) h1 hg'
       omega
   · obtain ⟨h00, F, h1, h2, h3, h4, h5, h6⟩ := hy.fam id n sz hid
     refine ⟨h00,F,h1,h2,h3,h4,h5,fun g hg=>?_⟩
     obtain ⟨arr,e,fr,h7,h8,h8',h9⟩:=h6 g hg
     refine ⟨arr,e,fr,h7,h8,h8',fun o ho i=>?_⟩
     rcases i with i | ⟨l',cs',hl',hg',_⟩
     · exact h9 o ho i
     · obtain ⟨hge, hx'⟩ := Mx l' cs' hl'
       exact hr.jL l' g id F (by show (x.vars l').isSome=true;rw [hx'];rfl) hg' (by show (x.xJ id).isSome=true;rw [Nw id _ hid];rfl) h1 hg
   · rcases i with i | ⟨l', cs', hl', hg', ho⟩
     · exact hy.vY g o i
     · obtain ⟨hge, hx'⟩ := Mx l' cs' hl'
       obtain ⟨g',arr,e,fr,k1,k2⟩:=hr.var l' cs' hx'
       rw [hg'] at k1
       cases k1
       have:=k2.le
       exact ⟨arr[o]'(by omega),by show E.w.cell? _=_;rw [cell_of_row E.w _ _ arr e fr k2.heap];simp⟩
mutual
theorem dh:∀ (d:V),d.plain=true→d.dat=true
 | .agg cs,h=>wQ cs h
 | .sl id xs,h=>by
   simp only [V.plain,Bool.and_eq_true,beq_iff_eq] at h
   obtain ⟨⟨rfl,_⟩,h2⟩:=h
   simp only [V.dat,wQ xs h2,beq_self_eq_true,Bool.and_self]
 | .int _ _,_ | .bool _,_ | .str _,_ | .kC,_ | .und,_=>rfl
 | .jY _,h | .ptr _ _,h | .xG _ _,h | .jo,h | .zl,h | .qJ _ _ _ _,h | .fn _ _,h | .raw _,h=>by cases h
theorem wQ:∀ (ds:List V),V.xV ds=true→V.mo ds=true
 | [],_=>rfl
 | d::ds,h=>by
   simp only [V.xV,Bool.and_eq_true] at h
   simp only [V.mo,dh d h.1,wQ ds h.2,Bool.and_self]
end
theorem vB:∀ (v:V),v.plain=true→v.forget=v:=by
 intro v
 refine V.rec (motive_1:=fun v=>v.plain=true→v.forget=v) (motive_2:=fun vs=>V.xV vs=true→V.qE vs=vs) ?_ ?_ ?_ ?_ ?_ ?_ ?_ ?_ ?_ ?_ ?_ ?_ ?_ ?_ ?_ ?_ ?_ v
 all_goals (intros;simp_all [V.plain,V.xV,V.forget,V.qE])
theorem VCalls.mU {P:Program} {f:FuncId} {ds:List V} {d:V} (hds:V.xV ds=true) (hd:d.plain=true) (h:∀ t,VCalls P f ds t (fun v t'=>Own2 d v t')) (s:S):VCalls P f ds s (fun v s'=>v=d∧s'=s):=by
 refine VCalls.pure (dh d hd) (VCalls.turn (VCalls.Wm (uZ.plain ds hds) h) ?_)
 rintro v s' _ ⟨rfl,rfl⟩
 exact ⟨d,_,uL.thaw s hd,vB d hd,fun l hl=>kg s _ hl,fun l hl=>wo s _ hl⟩
section
variable {s:S} {xs:List Own}
theorem Own2.fam {α : Type} {f : α → V} {cs:List α} {k AY:Nat} (sz:Nat) (hk:kK xs k=some (.fam cs.length AY)) (h1:∀ x,(f x).cells.length=sz) (h2:∀ x,(f x).cells.all V.qP=true) :
   Own2 (.sl 0 (cs.map f)) (.sl (s.next+k) (cs.map f)) (s.ext xs):=by
 cases cs with
 | nil=>exact ⟨[],.emp,List.nodup_nil⟩
 | cons c cs =>
   refine ⟨[]++[(false,s.next+k)],.sl (sz:=AY) (sz':=sz) rfl rfl (QW h1 (c::cs)) ?_ (eO.qP ?_),by simp⟩
   · rw [nQ,kF hk,List.length_map];rfl
   · rw [List.all_eq_true]
     intro v hv
     simp only [V.flat,List.mem_flatMap,List.mem_map] at hv
     obtain ⟨_,⟨x,_,rfl⟩,hv⟩:=hv
     exact List.all_eq_true.1 (h2 x) v hv
end
theorem Vi {v:V} (h:v.one=true) (n:Nat):(kH n v).1.one=true:=by
 cases v with
 | sl id xs=>exact uj n id xs
 | agg cs=>cases h
 | jY cs=>cases h
 | und=>cases h
 | raw w=>cases h
 | _=>rfl
theorem QF:∀ {vs:List V} (n:Nat),vs.all V.one=true→(xZ n vs).1.all V.one=true
 | [],_,_=>rfl
 | v::vs,n,h=>by
   rw [List.all_cons,Bool.and_eq_true] at h
   unfold xZ
   rw [List.all_cons,Vi h.1,QF _ h.2]
   rfl
theorem Zu {v:V} (n:Nat) (h:v.cells.all V.one=true):(kH n v).1.cells.all V.one=true:=by
 rw [(dP v n).1]
 exact QF n h
theorem iT (v:V) (n:Nat):(kH n v).1.cells.length=v.cells.length:=by
 rw [(dP v n).1,uo]
mutual
def mkT:V→Int→V
 | .agg cs,k => .agg (mkTL cs k)
 | .sl id xs,k => .sl id (mkL xs k)
 | .int i m,_ => .int i m
 | .bool b,_ => .bool b
 | .str b,_ => .str b
 | .jY vs,_ => .jY vs
 | .ptr l o,_ => .ptr l o
 | .xG cs o,_ => .xG cs o
 | .kC,_ => .kC
 | .jo,_ => .jo
 | .zl,_ => .zl
 | .qJ x l o n,_ => .qJ x l o n
 | .fn f cs,_ => .fn f cs
 | .und,_ => .und
 | .raw v,_ => .raw v
def mkTL:List V→Int→List V
 | [],_=>[]
 | v::vs,k=>mkT v k::mkTL vs (Uk v k)
def Uk:V→Int→Int
 | .agg cs,k=>UL cs k
 | .sl _ xs,k=>JE xs k
 | .int _ _,k | .bool _,k | .str _,k | .jY _,k | .ptr _ _,k | .xG _ _,k | .kC,k | .jo,k | .zl,k | .qJ _ _ _ _,k | .fn _ _,k | .und,k | .raw _,k=>k
def UL:List V→Int→Int
 | [],k=>k
 | v::vs,k=>UL vs (Uk v k)
end
mutual
theorem mkT_cv:∀ (v:V) (k:Int),cv (mkT v k)=cv v
 | .agg cs,k=>by simp only [mkT,cv,mkTL_cv cs k]
 | .sl id xs,k=>mk_cv (.sl id xs) k
 | .int _ _,k | .bool _,k | .str _,k | .jY _,k | .ptr _ _,k | .xG _ _,k | .kC,k | .jo,k | .zl,k | .qJ _ _ _ _,k | .fn _ _,k | .und,k | .raw _,k=>by simp only [mkT]
theorem mkTL_cv:∀ (vs:List V) (k:Int),bV (mkTL vs k)=bV vs
 | [],k=>rfl
 | v::vs,k=>by simp only [mkTL,bV,mkT_cv v k,mkTL_cv vs]
end
mutual
theorem Wn:∀ (v:V) (n:Nat) (k:Int),(kH n (mkT v k)).1=(kH n v).1
 | .agg cs,n,k=>by simp only [mkT,kH,Jq cs n k]
 | .sl id xs,n,k=>YF n id xs k
 | .int _ _,n,k | .bool _,n,k | .str _,n,k | .jY _,n,k | .ptr _ _,n,k | .xG _ _,n,k | .kC,n,k | .jo,n,k | .zl,n,k | .qJ _ _ _ _,n,k | .fn _ _,n,k | .und,n,k | .raw _,n,k=>by simp only [mkT]
theorem Jq:∀ (vs:List V) (n:Nat) (k:Int),(xZ n (mkTL vs k)).1=(xZ n vs).1
 | [],n,k=>rfl
 | v::vs,n,k=>by simp only [mkTL,xZ,Wn v n k,aH,mkT_cv,Jq vs _ _]
end
mutual
def sc:V→Nat
 | .int _ _ | .bool _ | .str _=>1
 | .agg cs=>JF cs
 | .sl _ xs=>JF xs
 | .jY _ | .ptr _ _ | .xG _ _ | .kC | .jo | .zl | .qJ _ _ _ _ | .fn _ _ | .und | .raw _=>0
def JF:List V→Nat
 | []=>0
 | v::vs=>sc v+JF vs
end
mutual
theorem Gj:∀ (v:V) (k:Int),nk v k=k+(sc v:Nat)
 | .int _ _,k | .bool _,k | .str _,k=>by simp only [nk,sc];omega
 | .agg cs,k=>by simp only [nk,sc];exact XZ cs k
 | .sl _ xs,k=>by simp only [nk,sc];exact XZ xs k
 | .jY _,k | .ptr _ _,k | .xG _ _,k | .kC,k | .jo,k | .zl,k | .qJ _ _ _ _,k | .fn _ _,k | .und,k | .raw _,k=>by simp only [nk,sc];omega
theorem XZ:∀ (vs:List V) (k:Int),JE vs k=k+(JF vs:Nat)
 | [],k=>by simp only [JE,JF];omega
 | v::vs,k=>by
   have h1:=Gj v k
   have h2:=XZ vs (nk v k)
   simp only [JE,JF];omega
end
mutual
theorem UM:∀ (v:V) (k:Int),Uk v k≤k+(sc v:Nat)
 | .agg cs,k=>by simp only [Uk,sc];exact Wo cs k
 | .sl _ xs,k=>by simp only [Uk,sc,XZ];omega
 | .int _ _,k | .bool _,k | .str _,k | .jY _,k | .ptr _ _,k | .xG _ _,k | .kC,k | .jo,k | .zl,k | .qJ _ _ _ _,k | .fn _ _,k | .und,k | .raw _,k=>by simp only [Uk];omega
theorem Wo:∀ (vs:List V) (k:Int),UL vs k≤k+(JF vs:Nat)
 | [],k=>by simp only [UL];omega
 | v::vs,k=>by
   have h1:=UM v k
   have h2:=Wo vs (Uk v k)
   simp only [UL,JF];omega
end
theorem Vl:∀ (a b:List V),JF (a++b)=JF a+JF b
 | [],b=>by simp [JF]
 | x::a,b=>by simp only [List.cons_append,JF,Vl a b];omega
theorem Wp {α : Type} {f : α → V} (c:Nat) (h:∀ x,sc (f x)≤c):∀ (l:List α),JF (l.map f)≤c*l.length
 | []=>by simp [JF]
 | x::l=>by
   have h1:=h x
   have h2:=Wp c h l
   simp only [List.map_cons,JF,List.length_cons,Nat.mul_add];omega
end Go.Proofs.YtolhegocbkckdaaGreat
