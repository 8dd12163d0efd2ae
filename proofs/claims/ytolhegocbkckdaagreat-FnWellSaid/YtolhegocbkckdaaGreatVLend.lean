/-
 A call whose arguments lie in variables, taken for plain data while it runs; its result, made of new slices alone, lies in new variables.
 Lending: a call that only reads its arguments, which lie in variables.
 Own work; no condition.
-/
import Derived.Test.YtolhegocbkckdaaGreatVL
namespace Go.Proofs.YtolhegocbkckdaaGreat
open Go
def V.qP:V→Bool
 | .int _ _ | .bool _ | .str _ | .kC | .und=>true
 | _=>false
mutual
def V.ids:V→List Nat
 | .agg cs=>V.Va cs
 | .jY vs=>V.Va vs
 | .sl id xs=>V.Va xs++(if xs.isEmpty then [] else [id])
 | .int _ _ | .bool _ | .str _ | .ptr _ _ | .xG _ _ | .kC | .jo | .zl | .qJ _ _ _ _ | .fn _ _ | .und | .raw _=>[]
def V.Va:List V→List Nat
 | []=>[]
 | v::vs=>V.ids v++V.Va vs
end
mutual
def V.full (s:S):V→Prop
 | .agg cs=>V.Wi s cs
 | .jY vs=>V.Wi s vs
 | .sl id xs=>(xs.isEmpty=true∨∃ sz,s.xJ id=some (xs.length,sz))∧V.Wi s xs
 | .int _ _ | .bool _ | .str _ | .kC | .jo | .zl | .und=>True
 | .ptr _ _ | .xG _ _ | .qJ _ _ _ _ | .fn _ _ | .raw _=>False
def V.Wi (s:S):List V→Prop
 | []=>True
 | v::vs=>V.full s v∧V.Wi s vs
end
mutual
def kH:Nat→V→V × List (Nat × List V)
 | n,.agg cs=>(.agg (xZ n cs).1,(xZ n cs).2)
 | n,.jY vs=>(.jY (xZ n vs).1,(xZ n vs).2)
 | n,.sl id xs=>if xs.isEmpty then (.sl 0 [],[]) else (.qJ .un (n+(xZ n xs).2.length) 0 xs.length,(xZ n xs).2++[(id,V.flat (xZ n xs).1)])
 | _,.jo=>(.sl 0 [],[])
 | _,.zl=>(.sl 0 [],[])
 | _,.int k m=>(.int k m,[])
 | _,.bool b=>(.bool b,[])
 | _,.str b=>(.str b,[])
 | _,.ptr l o=>(.ptr l o,[])
 | _,.xG cs o=>(.xG cs o,[])
 | _,.kC=>(.kC,[])
 | _,.qJ x l o m=>(.qJ x l o m,[])
 | _,.fn f cs=>(.fn f cs,[])
 | _,.und=>(.und,[])
 | _,.raw v=>(.raw v,[])
def xZ:Nat→List V→List V × List (Nat × List V)
 | _,[]=>([],[])
 | n,v::vs=>((kH n v).1::(xZ (n+(kH n v).2.length) vs).1,(kH n v).2++(xZ (n+(kH n v).2.length) vs).2)
end
mutual
theorem Ba:∀ (v:V) (n:Nat),(kH n v).2.map (·.1)=v.ids
 | .agg cs,n=>by simp only [kH,V.ids];exact nA cs n
 | .jY cs,n=>by simp only [kH,V.ids];exact nA cs n
 | .sl id xs,n=>by
   unfold kH V.ids
   cases h:xs.isEmpty with
   | true =>
     have:xs=[]:=by simpa using h
     subst this
     simp [V.Va]
   | false=>simp [nA xs n]
 | .jo,_ | .zl,_ | .int _ _,_ | .bool _,_ | .str _,_ | .ptr _ _,_ | .xG _ _,_ | .kC,_ | .qJ _ _ _ _,_ | .fn _ _,_ | .und,_ | .raw _,_=>rfl
theorem nA:∀ (vs:List V) (n:Nat),(xZ n vs).2.map (·.1)=V.Va vs
 | [],_=>rfl
 | v::vs,n=>by simp only [xZ,V.Va,List.map_append,Ba v n,nA vs]
end
def UJ (E E3:Env) (n:Nat) (os:List (Nat × List V)):Prop:=∀ j id cs,os[j]?=some (id,cs)→∃ F g,E.fam id=some F∧F.blk=some g∧E3.loc (n+j)=some g
theorem UJ.left {E E3:Env} {n:Nat} {a b:List (Nat × List V)} (h:UJ E E3 n (a++b)):UJ E E3 n a:=fun j id cs hj=>h j id cs (by
 rw [List.getElem?_append_left (List.getElem?_eq_some_iff.1 hj).1];exact hj)
theorem uo:∀ (vs:List V) (n:Nat),(xZ n vs).1.length=vs.length
 | [],_=>rfl
 | v::vs,n=>by simp only [xZ,List.length_cons,uo vs]
theorem UW {E:Env} {s:S} (hr:xg E s) {id n sz:Nat} (h:s.xJ id=some (n,sz)) (hn:0<n):∃ F g,E.fam id=some F∧F.blk=some g∧F.len=n∧F.sz=sz∧n≤F.cap∧F.cap≤maxLen∧id≠0 ∧
   ∃ arr e fr,E.w.heap[g]?=some (.cells arr e fr)∧F.cap*sz≤arr.size∧∀ o,o<F.cap*sz→¬ (fr.1≤o∧o<fr.2):=by
 obtain ⟨h0,F,h1,⟨h2,h3⟩,h4,h5,h6,h7⟩:=hr.fam id n sz h
 cases hb:F.blk with
 | none=>have:=h6 hb;omega
 | some g =>
   obtain ⟨arr,e,fr,k1,k2,k3,_⟩:=h7 g hb
   exact ⟨F,g,h1,hb,h2,h3,h4,h5,h0,arr,e,fr,k1,k2,k3⟩
theorem UY {E:Env} {s:S} (hr:xg E s) {id:Nat} {xs:List V} {val:Value} (h:qy E (.sl id xs) val) (hne:xs.isEmpty=false) (hf:∃ sz,s.xJ id=some (xs.length,sz)) :
   ∃ F g vals sz,E.fam id=some F∧F.blk=some g∧F.sz=sz∧val = .slice (some ⟨g,0,none⟩) xs.length F.cap∧xs.length≤F.cap∧F.cap≤maxLen∧(∀ x∈xs,x.cells.length=sz)∧ql E (V.flat xs) vals∧Seg E g 0 vals ∧
     ∃ arr e fr,E.w.heap[g]?=some (.cells arr e fr)∧F.cap*sz≤arr.size∧∀ o,o<F.cap*sz→¬ (fr.1≤o∧o<fr.2):=by
 obtain ⟨FN,hf⟩:=hf
 have hpos:0<xs.length:=by cases xs with | nil=>cases hne | cons _ _=>simp
 obtain ⟨F,g,h1,h2,h3,h4,h5,h6,h7,arr,e,fr,k1,k2,k3⟩:=UW hr hf hpos
 cases h with
 | @sl _ _ vals g' off cap sz a b c r sg f =>
   rcases f with f | ⟨F',f1,f2,f3⟩
   · exact absurd f h7
   · rw [h1] at f1
     cases f1
     obtain ⟨e1,e2,e3,e4⟩:=f3 h3.symm
     rw [h2] at e1
     cases e1
     subst e2 e3
     rw [h4] at e4
     subst e4
     exact ⟨F,g,vals,sz,h1,h2,h4,rfl,h5,h6,a,r,sg,arr,e,fr,k1,k2,k3⟩
 | iy=>cases hne
theorem UU {E:Env} {g:Nat} {vals:List Value} {arr:Array Value} {e:TypeId} {fr:Nat × Nat} (h:Seg E g 0 vals) (hh:E.w.heap[g]?=some (.cells arr e fr)):arr.toList.take vals.length=vals:=by
 apply List.ext_getElem?
 intro j
 rw [List.getElem?_take]
 split
 · rename_i hj
   obtain ⟨_,h2⟩:=h j vals[j] (by simp [hj])
   rw [cell_of_row E.w _ _ arr e fr hh,Nat.zero_add] at h2
   rw [List.getElem?_eq_getElem hj, ← h2]
   simp
 · rename_i hj
   rw [List.getElem?_eq_none (by omega)]
section
variable {E E3:Env} {t:S}
end
def Rx (E:Env) (t:S) (p:Nat × List V):Prop:=(t.xJ p.1).isSome=true∧∃ F g,E.fam p.1=some F∧F.blk=some g
end Go.Proofs.YtolhegocbkckdaaGreat
namespace Go.Proofs.YtolhegocbkckdaaGreat
open Go
mutual
inductive Rd (s:S):V→V→Prop
 | qP {v}:v.qP=true→Rd s v v
 | jo:Rd s .jo (.sl 0 [])
 | zl:Rd s .zl (.sl 0 [])
 | sl {id us ds}:uZ s us ds→Rd s (.sl id us) (.sl 0 ds)
 | qJ {ex l n us ds sz rest}:s.vars l=some (V.flat us++rest)→us.length=n→(∀ u∈us,u.cells.length=sz)→uZ s us ds→Rd s (.qJ ex l 0 n) (.sl 0 ds)
 | jS:Rd s (.qJ (.is 0) 0 0 0) (.sl 0 [])
 | agg {cs ds}:uZ s cs ds→Rd s (.agg cs) (.agg ds)
 | ptr {l k cs ds}:s.vars l=some cs→uZ s cs ds→Rd s (.ptr l k) (.xG ds k)
 | fn {f cs ds}:uZ s cs ds→Rd s (.fn f cs) (.fn f ds)
 | xG {cs k}:Rd s (.xG cs k) (.xG cs k)
inductive uZ (s:S):List V→List V→Prop
 | nil:uZ s [] []
 | cons {v d vs ds}:Rd s v d→uZ s vs ds→uZ s (v::vs) (d::ds)
end
theorem uZ.len {s:S}:∀ {vs ds:List V},uZ s vs ds→ds.length=vs.length
 | _,_,.nil=>rfl
 | _,_,.cons _ t=>by simp [uZ.len t]
theorem Rd.qA {s:S} {v d:V} (h:Rd s v d):d.cells.length=v.cells.length:=by
 cases h with
 | agg h=>exact h.len
 | qP h=>rfl
 | _=>rfl
theorem uZ.iU {s:S}:∀ {vs ds:List V} {sz:Nat},uZ s vs ds→(∀ v∈vs,v.cells.length=sz)→∀ d∈ds,d.cells.length=sz
 | _,_,_,.nil,_=>fun d hd=>by cases hd
 | _,_,_,.cons h t,ha=>fun d hd=>by
   rcases List.mem_cons.1 hd with rfl | hd
   · rw [h.qA];exact ha _ (by simp)
   · exact uZ.iU t (fun v hv=>ha v (by simp [hv])) d hd
def jN (E:Env) (s:S):Env:={ E with vY:=fun g o=>E.vY g o∨∃ l cs,s.vars l=some cs∧E.loc l=some g∧o<cs.length }
theorem Seg.lent {E:Env} {s:S} {g off:Nat} {vals:List Value} (h:Seg E g off vals):Seg (jN E s) g off vals:=fun j v hj=>⟨.inl (h j v hj).1,(h j v hj).2⟩
mutual
theorem Rd.rep {E:Env} {s:S} (hr:xg E s):∀ {v d:V} {val:Value},Rd s v d→qy E v val→qy (jN E s) d val
 | _,_,val,.qP h,k=>by
   cases k with
   | int a b=>exact .int a b
   | bool=>exact .bool
   | str a=>exact .str a
   | kC=>exact .kC
   | und=>exact .und
   | _=>cases h
 | _,_,val,.jo,k=>by cases k with | jo=>exact .iy (.inl rfl)
 | _,_,val,.zl,k=>by cases k with | zl=>exact .iy (.inl rfl)
 | _,_,val,.sl h,k=>by
   cases k with
   | @sl _ _ vals g off cap sz a b c r sg f =>
     have hl:=h.len
     have:=qy.sl (E:=jN E s) (id:=0) (g:=g) (off:=off) (cap:=cap) (uZ.iU h a) (by omega) c (uZ.D9 hr h r) (Seg.lent sg) (.inl rfl)
     rw [hl] at this
     exact this
   | iy f=>cases h;exact .iy (.inl rfl)
 | _,_,val,.qJ (l:=l) (us:=us) hv hn hc h,k=>by
   cases k with
   | @qJ _ _ _ _ cap g hg hle hmx hex =>
     obtain ⟨g',arr,e,fr,h1,h2⟩:=hr.var _ _ hv
     rw [hg] at h1
     cases h1
     have hl:=h.len
     obtain ⟨va,vb,hab,hva,hvb⟩:=ql.split h2.rep
     have:=qy.sl (E:=jN E s) (id:=0) (g:=g) (off:=0) (cap:=cap) (uZ.iU h hc) (by omega) hmx (uZ.D9 hr h hva) (fun j x hj=>?_) (.inl rfl)
     · rw [hl, hn] at this
       exact this
     · have hj2 : (va ++ vb)[j]? = some x := by rw [List.getElem?_append_left (List.getElem?_eq_some_iff.1 hj).1]; exact hj
       rw [← hab,List.getElem?_take] at hj2
       split at hj2
       · rename_i hjl
         refine ⟨.inr ⟨l,_,hv,hg,by omega⟩,?_⟩
         show E.w.cell? _=_
         rw [cell_of_row E.w _ _ arr e fr h2.heap,Nat.zero_add]
         simpa using hj2
       · cases hj2
   | jS =>
     have h0:us=[]:=List.length_eq_zero_iff.1 hn
     subst h0
     cases h
     exact .iy (.inl rfl)
 | _,_,val,.jS,k=>by
   cases k with
   | qJ hg hle hmx hex =>
     have e:_=0:=hex
     subst e
     exact .iy (.inl rfl)
   | jS=>exact .iy (.inl rfl)
 | _,_,val,.agg h,k=>by cases k with | agg r=>exact .agg (uZ.rep hr h r)
 | _,_,val,.fn h,k=>by cases k with | fn r=>exact .fn (uZ.rep hr h r)
 | _,_,val,.xG,k=>qy.xQ (E':=jN E s) ⟨fun _ _ i=>Or.inl i,fun _ _ _=>rfl,fun _ _ h=>h,fun id F h=>⟨F,h,Nat.le_refl _,fun _=>rfl⟩⟩ k
 | _,_,val,.ptr (l:=l) (k:=k0) hv h,k=>by
   cases k with
   | @ptr _ _ g hg =>
     obtain ⟨g',arr,e,fr,h1,h2⟩:=hr.var _ _ hv
     rw [hg] at h1
     cases h1
     have:=qy.xG (E:=jN E s) (g:=g) (off:=0) (k:=k0) (uZ.rep hr h h2.rep) (fun j x hj=>?_)
     · rw [Nat.zero_add] at this
       exact this
     · rw [List.getElem?_take] at hj
       split at hj
       · rename_i hjl
         refine ⟨.inr ⟨l,_,hv,hg,by omega⟩,?_⟩
         show E.w.cell? _=_
         rw [cell_of_row E.w _ _ arr e fr h2.heap,Nat.zero_add]
         simpa using hj
       · cases hj
theorem uZ.rep {E:Env} {s:S} (hr:xg E s):∀ {vs ds:List V} {vals:List Value},uZ s vs ds→ql E vs vals→ql (jN E s) ds vals
 | _,_,_,.nil,k=>by cases k;exact .nil
 | _,_,_,.cons h t,k=>by cases k with | cons k1 k2=>exact .cons (Rd.rep hr h k1) (uZ.rep hr t k2)
theorem uZ.D9 {E:Env} {s:S} (hr:xg E s):∀ {vs ds:List V} {vals:List Value},uZ s vs ds→ql E (V.flat vs) vals→ql (jN E s) (V.flat ds) vals
 | _,_,_,.nil,k=>by cases k;exact .nil
 | _,_,vals,.cons (v:=v) (d:=d) (vs:=vs) (ds:=ds) h t,k=>by
   have e:∀ (y:V) (ys:List V),V.flat (y::ys)=y.cells++V.flat ys:=fun y ys=>by simp [V.flat]
   rw [e] at k ⊢
   obtain ⟨a,b,rfl,ha,hb⟩:=ql.split k
   exact (Rd.Nq hr h ha).append (uZ.D9 hr t hb)
theorem Rd.Nq {E:Env} {s:S} (hr:xg E s):∀ {v d:V} {vals:List Value},Rd s v d→ql E v.cells vals→ql (jN E s) d.cells vals
 | _,_,_,.agg h,k=>uZ.rep hr h k
 | _,_,_,.qP (v:=v) h,k=>by
   have e:v.cells=[v]:=by cases v <;> first | rfl | cases h
   rw [e] at k ⊢
   cases k with | cons k1 k2=>cases k2;exact .cons (Rd.rep hr (.qP h) k1) .nil
 | _,_,_,.jo,k=>by cases k with | cons k1 k2=>cases k2;exact .cons (Rd.rep hr .jo k1) .nil
 | _,_,_,.zl,k=>by cases k with | cons k1 k2=>cases k2;exact .cons (Rd.rep hr .zl k1) .nil
 | _,_,_,.sl h,k=>by cases k with | cons k1 k2=>cases k2;exact .cons (Rd.rep hr (.sl h) k1) .nil
 | _,_,_,.qJ a b c h,k=>by cases k with | cons k1 k2=>cases k2;exact .cons (Rd.rep hr (.qJ a b c h) k1) .nil
 | _,_,_,.jS,k=>by cases k with | cons k1 k2=>cases k2;exact .cons (Rd.rep hr .jS k1) .nil
 | _,_,_,.ptr a h,k=>by cases k with | cons k1 k2=>cases k2;exact .cons (Rd.rep hr (.ptr a h) k1) .nil
 | _,_,_,.fn h,k=>by cases k with | cons k1 k2=>cases k2;exact .cons (Rd.rep hr (.fn h) k1) .nil
 | _,_,_,.xG,k=>by cases k with | cons k1 k2=>cases k2;exact .cons (Rd.rep hr .xG k1) .nil
end
structure Pj (d v:V) (t:S):Prop where
 forget:v.forget=d
 nodup:v.ids.Nodup
 full:v.full t
def jv (n:Nat) (d:V):List Own:=(kH n d).2.map fun p => .var p.2
end Go.Proofs.YtolhegocbkckdaaGreat
