/-
 The books of a walk: which memory of one's own holds which data; slices that are appended to; calls that lend, mark and look; loops. Own work; no condition.
-/
import Derived.Test.YtolhegocbkckdaaGreatVOwn
namespace Go.Proofs.YtolhegocbkckdaaGreat
open Go
def yP (s s':S) (p:Bool × Nat):Prop:=(p.1=true→s'.vars p.2=s.vars p.2)∧(p.1=false→s'.xJ p.2=s.xJ p.2)
theorem yP.lt {s:S} {xs:List Own} {p:Bool × Nat} (h:p.2<s.next):yP s (s.ext xs) p:=⟨fun _=>kg _ _ h,fun _=>wo _ _ h⟩
mutual
inductive Pc (s:S):V→V→List (Bool × Nat)→Prop
 | kH {n d v}:v=(kH n d).1→d.plain=true→uQ s n (kH n d).2→Pc s v d (vl n (cv d))
 | jo:Pc s .jo (.sl 0 []) []
 | zl:Pc s .zl (.sl 0 []) []
 | emp {id}:Pc s (.sl id []) (.sl 0 []) []
 | sl {id us ds sz sz' ls}:us.isEmpty=false→(∀ x∈ds,x.cells.length=sz')→s.xJ id=some (us.length,sz)→pX s us ds ls→Pc s (.sl id us) (.sl 0 ds) (ls++[(false,id)])
 | agg {cs ds ls}:pX s cs ds ls→Pc s (.agg cs) (.agg ds) ls
inductive pX (s:S):List V→List V→List (Bool × Nat)→Prop
 | nil:pX s [] [] []
 | cons {v vs d ds a b}:Pc s v d a→pX s vs ds b→pX s (v::vs) (d::ds) (a++b)
end
theorem pX.len {s:S}:∀ {vs ds:List V} {ls:List (Bool × Nat)},pX s vs ds ls→ds.length=vs.length
 | _,_,_,.nil=>rfl
 | _,_,_,.cons _ t=>by simp [pX.len t]
theorem eO.one {s:S} {v d:V} {ls:List (Bool × Nat)} (h:Tr s v d ls):eO s [v] [d] ls:=by
 have:=eO.cons h eO.nil
 rwa [List.append_nil] at this
mutual
theorem Pc.tr {s:S}:∀ {v d:V} {ls:List (Bool × Nat)},Pc s v d ls→Tr s v d ls∧eO s v.cells d.cells ls
 | _,_,_,.kH e hp hv=>by subst e;exact ⟨Ve _ _ hp hv,K8 _ _ hp hv⟩
 | _,_,_,.jo=>⟨.jo,.one .jo⟩
 | _,_,_,.zl=>⟨.zl,.one .zl⟩
 | _,_,_,.emp=>⟨.emp,.one .emp⟩
 | _,_,_,.sl h1 h2 h3 h4=>by
   have k:Tr s _ _ _ := .sl h1 h4.len.symm h2 h3 h4.tr.2
   exact ⟨k,.one k⟩
 | _,_,_,.agg h=>⟨.agg h.tr.1,h.tr.1⟩
theorem pX.tr {s:S}:∀ {vs ds:List V} {ls:List (Bool × Nat)},pX s vs ds ls→eO s vs ds ls∧eO s (V.flat vs) (V.flat ds) ls
 | _,_,_,.nil=>⟨.nil,.nil⟩
 | _,_,_,.cons h t=>⟨.cons h.tr.1 t.tr.1,by rw [vZ,vZ];exact h.tr.2.append t.tr.2⟩
end
mutual
theorem Pc.rd {s:S}:∀ {v d:V} {ls:List (Bool × Nat)},Pc s v d ls→Rd s v d
 | _,_,_,.kH e hp hv=>by subst e;exact Zy _ _ hp hv
 | _,_,_,.jo => .jo
 | _,_,_,.zl => .zl
 | _,_,_,.emp => .sl .nil
 | _,_,_,.sl _ _ _ h => .sl h.rd
 | _,_,_,.agg h => .agg h.rd
theorem pX.rd {s:S}:∀ {vs ds:List V} {ls:List (Bool × Nat)},pX s vs ds ls→uZ s vs ds
 | _,_,_,.nil => .nil
 | _,_,_,.cons h t => .cons h.rd t.rd
end
mutual
theorem Pc.congr {s s':S}:∀ {v d:V} {ls:List (Bool × Nat)},Pc s v d ls→(∀ p∈ls,yP s s' p)→Pc s' v d ls
 | _,_,_,.kH (n:=n) (d:=d) e hp hv,h=>by
   refine .kH e hp fun j p hj=>?_
   have hlt:=(List.getElem?_eq_some_iff.1 hj).1
   rw [aH] at hlt
   rw [(h (true,n+j) (by rw [Xp];exact ⟨rfl,by simp only;omega,by simp only;omega⟩)).1 rfl]
   exact hv j p hj
 | _,_,_,.jo,_ => .jo
 | _,_,_,.zl,_ => .zl
 | _,_,_,.emp,_ => .emp
 | _,_,_,.sl (id:=id) h1 h2 h3 h4,h => .sl h1 h2 (by rw [(h (false,id) (by simp)).2 rfl];exact h3) (h4.congr fun p hp=>h p (List.mem_append_left _ hp))
 | _,_,_,.agg h1,h => .agg (h1.congr h)
theorem pX.congr {s s':S}:∀ {vs ds:List V} {ls:List (Bool × Nat)},pX s vs ds ls→(∀ p∈ls,yP s s' p)→pX s' vs ds ls
 | _,_,_,.nil,_ => .nil
 | _,_,_,.cons h1 t,h => .cons (h1.congr fun p hp=>h p (List.mem_append_left _ hp)) (t.congr fun p hp=>h p (List.mem_append_right _ hp))
end
theorem pX.append {s:S}:∀ {vs ds:List V} {ls:List (Bool × Nat)} {ws es:List V} {ms:List (Bool × Nat)},pX s vs ds ls→pX s ws es ms→pX s (vs++ws) (ds++es) (ls++ms)
 | _,_,_,_,_,_,.nil,k=>k
 | _,_,_,_,_,_,.cons h t,k=>by rw [List.append_assoc];exact .cons h (t.append k)
mutual
theorem Ws:∀ (v:V) (n:Nat),v.plain=true→cv v=0→kH n v=(v,[])
 | .agg cs,n,h,hc=>by
   have:=Jk cs n h hc
   simp only [kH,this]
 | .sl id xs,n,h,hc=>by
   simp only [V.plain,Bool.and_eq_true,beq_iff_eq] at h
   simp only [cv] at hc
   unfold kH
   cases hx:xs.isEmpty with
   | true =>
     have:xs=[]:=by simpa using hx
     subst this
     obtain ⟨⟨rfl,_⟩,_⟩:=h
     rfl
   | false=>rw [hx] at hc;simp at hc
 | .int _ _,n,h,hc | .bool _,n,h,hc | .str _,n,h,hc | .kC,n,h,hc | .und,n,h,hc=>rfl
 | .jY _,n,h,hc | .ptr _ _,n,h,hc | .xG _ _,n,h,hc | .jo,n,h,hc | .zl,n,h,hc | .qJ _ _ _ _,n,h,hc | .fn _ _,n,h,hc | .raw _,n,h,hc=>by cases h
theorem Jk:∀ (vs:List V) (n:Nat),V.xV vs=true→bV vs=0→xZ n vs=(vs,[])
 | [],n,h,hc=>rfl
 | v::vs,n,h,hc=>by
   simp only [V.xV,Bool.and_eq_true] at h
   simp only [bV] at hc
   have h1:=Ws v n h.1 (by omega)
   unfold xZ
   simp only [h1,List.length_nil,Nat.add_zero,Jk vs n h.2 (by omega),List.append_nil]
end
theorem UN (s:S) (n:Nat):uQ s n []:=fun j p hj=>by simp at hj
theorem Pc.pl {s:S} {v:V} (h:v.plain=true) (hc:cv v=0):Pc s v v []:=by
 have e:=Ws v 0 h hc
 have:=Pc.kH (s:=s) (n:=0) (d:=v) (v:=v) (by rw [e]) h (by rw [e];exact UN s 0)
 rw [hc] at this
 exact this
theorem pX.pl {s:S}:∀ {vs:List V},V.xV vs=true→bV vs=0→pX s vs vs []
 | [],_,_ => .nil
 | v::vs,h,hc=>by
   simp only [V.xV,Bool.and_eq_true] at h
   simp only [bV] at hc
   exact .cons (a:=[]) (Pc.pl h.1 (by omega)) (pX.pl h.2 (by omega))
def j4 (a b:List (Bool × Nat)):Prop:=(b.Nodup→a.Nodup)∧∀ p∈a,p∈b
theorem j4.refl (a:List (Bool × Nat)):j4 a a:=⟨id,fun _ h=>h⟩
theorem j4.trans {a b c:List (Bool × Nat)} (h:j4 a b) (k:j4 b c):j4 a c:=⟨fun n=>h.1 (k.1 n),fun p hp=>k.2 p (h.2 p hp)⟩
theorem j4.app {a a' b b':List (Bool × Nat)} (h:j4 a a') (k:j4 b b'):j4 (a++b) (a'++b'):=by
 refine ⟨fun n=>?_,fun p hp=>?_⟩
 · rw [List.nodup_append] at n ⊢
   exact ⟨h.1 n.1,k.1 n.2.1,fun x hx y hy=>n.2.2 x (h.2 x hx) y (k.2 y hy)⟩
 · rcases List.mem_append.1 hp with hp | hp
   · exact List.mem_append_left _ (h.2 p hp)
   · exact List.mem_append_right _ (k.2 p hp)
theorem j4.comm (a b:List (Bool × Nat)):j4 (a++b) (b++a):=by
 refine ⟨fun n=>?_,fun p hp=>?_⟩
 · rw [List.nodup_append] at n ⊢
   exact ⟨n.2.1,n.1,fun x hx y hy e=>n.2.2 y hy x hx e.symm⟩
 · rcases List.mem_append.1 hp with hp | hp
   · exact List.mem_append_right _ hp
   · exact List.mem_append_left _ hp
theorem j4.left (a b:List (Bool × Nat)):j4 a (a++b):=⟨fun n=>(List.nodup_append.1 n).1,fun _ h=>List.mem_append_left _ h⟩
theorem j4.right (a b:List (Bool × Nat)):j4 b (a++b):=⟨fun n=>(List.nodup_append.1 n).2.1,fun _ h=>List.mem_append_right _ h⟩
theorem j4.swap (a b c:List (Bool × Nat)):j4 (a++(b++c)) (b++(a++c)):=by
 rw [← List.append_assoc, ← List.append_assoc]
 exact (j4.comm a b).app (j4.refl c)
mutual
inductive Ow (s:S):V→V→List (Bool × Nat)→Prop
 | qP {v}:v.qP=true→Ow s v v []
 | jS:Ow s (.qJ (.is 0) 0 0 0) (.sl 0 []) []
 | slc {l n c sz us ds rest ls}:s.vars l=some (V.flat us++rest)→us.length=n→(∀ u∈us,u.cells.length=sz)→rest.length=(c - n)*sz→n≤c→us≠[]→gu s us ds ls→Ow s (.qJ (.is c) l 0 n) (.sl 0 ds) (ls++[(true,l)])
 | agg {cs ds ls}:gu s cs ds ls→Ow s (.agg cs) (.agg ds) ls
inductive gu (s:S):List V→List V→List (Bool × Nat)→Prop
 | nil:gu s [] [] []
 | cons {v vs d ds a b}:Ow s v d a→gu s vs ds b→gu s (v::vs) (d::ds) (a++b)
end
theorem gu.len {s:S}:∀ {vs ds:List V} {ls:List (Bool × Nat)},gu s vs ds ls→ds.length=vs.length
 | _,_,_,.nil=>rfl
 | _,_,_,.cons _ t=>by simp [gu.len t]
mutual
theorem Ow.congr {s s':S}:∀ {v d:V} {ls:List (Bool × Nat)},Ow s v d ls→(∀ p∈ls,yP s s' p)→Ow s' v d ls
 | _,_,_,.qP h,_ => .qP h
 | _,_,_,.jS,_ => .jS
 | _,_,_,.slc (l:=l) h1 h2 h3 h4 h5 h0 h6,h => .slc (by rw [(h (true,l) (by simp)).1 rfl];exact h1) h2 h3 h4 h5 h0 (h6.congr fun p hp=>h p (List.mem_append_left _ hp))
 | _,_,_,.agg h1,h => .agg (h1.congr h)
theorem gu.congr {s s':S}:∀ {vs ds:List V} {ls:List (Bool × Nat)},gu s vs ds ls→(∀ p∈ls,yP s s' p)→gu s' vs ds ls
 | _,_,_,.nil,_ => .nil
 | _,_,_,.cons h1 t,h => .cons (h1.congr fun p hp=>h p (List.mem_append_left _ hp)) (t.congr fun p hp=>h p (List.mem_append_right _ hp))
end
mutual
theorem Ow.rd {s:S}:∀ {v d:V} {ls:List (Bool × Nat)},Ow s v d ls→Rd s v d
 | _,_,_,.qP h => .qP h
 | _,_,_,.jS => .jS
 | _,_,_,.slc h1 h2 h3 _ _ _ h6 => .qJ h1 h2 h3 h6.rd
 | _,_,_,.agg h => .agg h.rd
theorem gu.rd {s:S}:∀ {vs ds:List V} {ls:List (Bool × Nat)},gu s vs ds ls→uZ s vs ds
 | _,_,_,.nil => .nil
 | _,_,_,.cons h t => .cons h.rd t.rd
end
theorem gu.append {s:S}:∀ {vs ds:List V} {ls:List (Bool × Nat)} {ws es:List V} {ms:List (Bool × Nat)},gu s vs ds ls→gu s ws es ms→gu s (vs++ws) (ds++es) (ls++ms)
 | _,_,_,_,_,_,.nil,k=>k
 | _,_,_,_,_,_,.cons h t,k=>by rw [List.append_assoc];exact .cons h (t.append k)
theorem gu.split {s:S}:∀ {ds es vs:List V} {ls:List (Bool × Nat)},gu s vs (ds++es) ls→∃ a b la lb,vs=a++b∧ls=la++lb∧gu s a ds la∧gu s b es lb
 | [],es,vs,ls,h=>⟨[],vs,[],ls,rfl,rfl,.nil,h⟩
 | d::ds,es,vs,ls,h=>by
   cases h with
   | @cons v vs _ _ a b h1 h2 =>
     obtain ⟨a',b',la,lb,rfl,rfl,k1,k2⟩:=h2.split
     exact ⟨v::a',b',a++la,lb,rfl,by rw [List.append_assoc],.cons h1 k1,k2⟩
mutual
theorem Ow.vars {s:S}:∀ {v d:V} {ls:List (Bool × Nat)},Ow s v d ls→∀ p∈ls,p.1=true∧(s.vars p.2).isSome=true
 | _,_,_,.qP h=>fun p hp=>by cases hp
 | _,_,_,.jS=>fun p hp=>by cases hp
 | _,_,_,.slc h1 _ _ _ _ _ h6=>fun p hp=>by
   rcases List.mem_append.1 hp with hp | hp
   · exact h6.vars p hp
   · rw [List.mem_singleton] at hp
     subst hp
     exact ⟨rfl,by rw [h1];rfl⟩
 | _,_,_,.agg h=>h.vars
theorem gu.vars {s:S}:∀ {vs ds:List V} {ls:List (Bool × Nat)},gu s vs ds ls→∀ p∈ls,p.1=true∧(s.vars p.2).isSome=true
 | _,_,_,.nil=>fun p hp=>by cases hp
 | _,_,_,.cons h t=>fun p hp=>by
   rcases List.mem_append.1 hp with hp | hp
   · exact h.vars p hp
   · exact t.vars p hp
end
inductive BE where
 | blk (n:Nat) (d:V)
 | cell (l:Nat) (cs:List V)
 | acc (id sz:Nat) (us ds:List V)
 | Bg (id sz:Nat) (us:List V)
 | own (v d:V)
def Km (s:S):BE→List (Bool × Nat)→Prop
 | .blk n d,ls=>ls=vl n (cv d)∧d.plain=true∧uQ s n (kH n d).2∧n+cv d≤s.next
 | .cell l cs,ls=>ls=[(true,l)]∧s.vars l=some cs
 | .acc id sz us ds,ls=>∃ l1,ls=l1++[(false,id)]∧pX s us ds l1∧s.xJ id=some (us.length,sz)∧∀ d∈ds,d.cells.length=sz
 | .Bg id sz us,ls=>ls=[(false,id)]∧s.xJ id=some (us.length,sz)
 | .own v d,ls=>Ow s v d ls
inductive kU (s:S):List BE→List (Bool × Nat)→Prop
 | nil:kU s [] []
 | cons {e a H b}:Km s e a→kU s H b→kU s (e::H) (a++b)
structure Hold (s:S) (b:Nat) (H:List BE):Prop where
 ex:∃ ls,kU s H ls∧ls.Nodup∧∀ p∈ls,p.2<b
theorem Hold.start (s:S) (b:Nat):Hold s b []:=⟨[],.nil,List.nodup_nil,fun p hp=>by cases hp⟩
theorem Km.congr {s s':S} (hn:s.next≤s'.next):∀ {e:BE} {ls:List (Bool × Nat)},Km s e ls→(∀ p∈ls,yP s s' p)→Km s' e ls
 | .blk n d,ls,⟨h1,h2,h3,h4⟩,h=>by
   subst h1
   refine ⟨rfl,h2,fun j p hj=>?_,by omega⟩
   have hlt:=(List.getElem?_eq_some_iff.1 hj).1
   rw [aH] at hlt
   rw [(h (true,n+j) (by rw [Xp];exact ⟨rfl,by simp only;omega,by simp only;omega⟩)).1 rfl]
   exact h3 j p hj
 | .cell l cs,ls,⟨h1,h2⟩,h=>by
   subst h1
   exact ⟨rfl,by rw [(h (true,l) (by simp)).1 rfl];exact h2⟩
 | .acc id sz us ds,ls,⟨l1,h1,h2,h3,h4⟩,h=>by
   subst h1
   exact ⟨l1,rfl,h2.congr fun p hp=>h p (List.mem_append_left _ hp),by rw [(h (false,id) (by simp)).2 rfl];exact h3,h4⟩
 | .Bg id sz us,ls,⟨h1,h2⟩,h=>by
   subst h1
   exact ⟨rfl,by rw [(h (false,id) (by simp)).2 rfl];exact h2⟩
 | .own v d,ls,h1,h=>Ow.congr h1 h
theorem kU.congr {s s':S} (hn:s.next≤s'.next):∀ {H:List BE} {ls:List (Bool × Nat)},kU s H ls→(∀ p∈ls,yP s s' p)→kU s' H ls
 | _,_,.nil,_ => .nil
 | _,_,.cons h1 t,h => .cons (h1.congr hn fun p hp=>h p (List.mem_append_left _ hp)) (t.congr hn fun p hp=>h p (List.mem_append_right _ hp))
def uF {α : Type}:List α → Nat→Option (List α)
 | [],_=>none
 | _::l,0=>some l
 | x::l,n+1=>match uF l n with
   | some r=>some (x::r)
   | none=>none
inductive Pick:List BE→BE→List BE→Prop
 | here {e H}:Pick (e::H) e H
 | there {x e H H'}:Pick H e H'→Pick (x::H) e (x::H')
theorem Pick.idx:∀ {H H':List BE} {e:BE},Pick H e H'→∃ i,kK H i=some e∧uF H i=some H'
 | _,_,_,.here=>⟨0,rfl,rfl⟩
 | _,_,_,.there h=>by
   obtain ⟨i,h1,h2⟩:=h.idx
   exact ⟨i+1,h1,by simp only [uF,h2]⟩
theorem kU.take {s:S}:∀ {H:List BE} {ls:List (Bool × Nat)} {i:Nat} {e:BE} {H':List BE},kU s H ls→kK H i=some e→uF H i=some H'→∃ a l',Km s e a∧kU s H' l'∧j4 (a++l') ls
 | _::_,_,0,e,H',.cons h1 t,hi,he=>by
   cases hi
   cases he
   exact ⟨_,_,h1,t,j4.refl _⟩
 | x::H,_,i+1,e,H',.cons (a:=a0) (b:=b0) h1 t,hi,he=>by
   simp only [uF] at he
   cases hq:uF H i with
   | none=>rw [hq] at he;cases he
   | some r =>
     rw [hq] at he
     cases he
     obtain ⟨a,l',k1,k2,k3⟩:=kU.take t (show kK H i=some e from hi) hq
     exact ⟨a,a0++l',k1,.cons h1 k2,(j4.swap a a0 l').trans ((j4.refl a0).app k3)⟩
theorem kU.put {s:S}:∀ {H:List BE} {i:Nat} {e':BE} {H' H2:List BE} {a l':List (Bool × Nat)},uF H i=some H'→fC H i e'=some H2→kU s H' l'→Km s e' a→∃ q,kU s H2 q∧j4 q (a++l')
 | _::_,0,e',H',H2,a,l',he,hs,h,hb=>by
   cases he
   cases hs
   exact ⟨_,.cons hb h,j4.refl _⟩
 | x::H,i+1,e',H',H2,a,l',he,hs,h,hb=>by
   simp only [uF] at he
   simp only [fC] at hs
   cases hq:uF H i with
   | none=>rw [hq] at he;cases he
   | some r =>
     rw [hq] at he
     cases he
     cases hq2:fC H i e' with
     | none=>rw [hq2] at hs;cases hs
     | some r2 =>
       rw [hq2] at hs
       cases hs
       cases h with
       | cons h1 t =>
         rename_i a0 b0
         obtain ⟨q,k1,k2⟩:=kU.put hq hq2 t hb
         exact ⟨a0++q,.cons h1 k1,((j4.refl a0).app k2).trans (j4.swap a0 a b0)⟩
theorem sQ:∀ {H:List BE} {i:Nat} {e:BE},kK H i=some e→∃ H',uF H i=some H'
 | _::H,0,_,_=>⟨H,rfl⟩
 | x::H,i+1,e,h=>by
   obtain ⟨r,hr⟩:=sQ (H:=H) (i:=i) (e:=e) h
   exact ⟨x::r,by simp only [uF,hr]⟩
theorem Wt:∀ {H:List BE} {e:BE},e∈H→∃ i,kK H i=some e
 | x::H,e,h=>by
   rcases List.mem_cons.1 h with rfl | h
   · exact ⟨0,rfl⟩
   · obtain ⟨i, hi⟩ := Wt h
     exact ⟨i+1,hi⟩
theorem Hold.at {s:S} {b:Nat} {H:List BE} {e:BE} (h:Hold s b H) (hm:e∈H):∃ a,Km s e a∧∀ p∈a,p.2<b:=by
 obtain ⟨ls,h1,h2,h3⟩:=h.ex
 obtain ⟨i,hi⟩:=Wt hm
 obtain ⟨H',he⟩:=sQ hi
 obtain ⟨a,l',k1,k2,k3⟩:=h1.take hi he
 exact ⟨a,k1,fun p hp=>h3 p (k3.2 p (List.mem_append_left _ hp))⟩
theorem Hold.get {s:S} {H:List BE} {b n:Nat} {d:V} (h:Hold s b H) (hm:BE.blk n d∈H):n+cv d≤s.next∧d.plain=true∧uQ s n (kH n d).2:=by
 obtain ⟨a,⟨h1,h2,h3,h4⟩,h5⟩:=h.at hm
 exact ⟨h4,h2,h3⟩
theorem Hold.cell {s:S} {H:List BE} {b l:Nat} {cs:List V} (h:Hold s b H) (hm:BE.cell l cs∈H):l+1≤b∧s.vars l=some cs:=by
 obtain ⟨a,⟨h1,h2⟩,h5⟩:=h.at hm
 exact ⟨h5 (true,l) (by rw [h1];simp),h2⟩
theorem Hold.UO {s:S} {H:List BE} {b id sz:Nat} {us ds:List V} (h:Hold s b H) (hm:BE.acc id sz us ds∈H):id<b∧s.xJ id=some (us.length,sz)∧us.length=ds.length∧uZ s us ds:=by
 obtain ⟨a,⟨l1,h1,h2,h3,h4⟩,h5⟩:=h.at hm
 exact ⟨h5 (false,id) (by rw [h1];simp),h3,h2.len.symm,h2.rd⟩
theorem Hold.XQ {s:S} {H:List BE} {b id sz:Nat} {us ds:List V} (h:Hold s b H) (i:Nat) (hi:kK H i=some (.acc id sz us ds)):us.length=ds.length:=(h.UO (List.mem_of_getElem? (kF hi))).2.2.1
theorem Hold.ext {s:S} {H:List BE} (h:Hold s s.next H) (xs:List Own):Hold (s.ext xs) (s.ext xs).next H:=by
 obtain ⟨ls,h1,h2,h3⟩:=h.ex
 exact ⟨ls,h1.congr (by rw [q8];omega) fun p hp => .lt (h3 p hp),h2,fun p hp=>by have:=h3 p hp;rw [q8];omega⟩
theorem Hold.more {s:S} {H:List BE} (h:Hold s s.next H) {e:BE} {a:List (Bool × Nat)} {xs:List Own} (he:Km (s.ext xs) e a) (hn:a.Nodup) (hlo:∀ p∈a,s.next≤p.2∧p.2<s.next+xs.length):Hold (s.ext xs) (s.ext xs).next (e::H):=by
 obtain ⟨ls,h1,h2,h3⟩:=h.ex
 refine ⟨a++ls,.cons he (h1.congr (by rw [q8];omega) fun p hp => .lt (h3 p hp)),?_,fun p hp=>?_⟩
 · rw [List.nodup_append]
   exact ⟨hn,h2,fun x hx y hy e=>by have h4:=(hlo x hx).1;have h5:=h3 y hy;rw [e] at h4;omega⟩
 · rw [q8]
   rcases List.mem_append.1 hp with hp | hp
   · exact (hlo p hp).2
   · have:=h3 p hp;omega
theorem Hold.push {s:S} {H:List BE} {d:V} (h:Hold s s.next H) (hd:d.plain=true):Hold (s.ext (jv s.next d)) (s.ext (jv s.next d)).next (.blk s.next d::H):=by
 refine h.more (e := .blk s.next d) (a:=vl s.next (cv d)) ⟨rfl,hd,?_,by rw [q8,iR];exact Nat.le_refl _⟩ (K7 _ _) fun p hp=>?_
 · exact uQ.extC (s:=s) [] (d:=d) (m:=s.next) (by simp)
 · rw [Xp] at hp
   rw [iR]
   exact ⟨hp.2.1,hp.2.2⟩
theorem Hold.new {s:S} {H:List BE} (h:Hold s s.next H) (cs:List V):Hold (s.ext [.var cs]) (s.ext [.var cs]).next (.cell s.next cs::H):=by
 refine h.more (e := .cell s.next cs) (a:=[(true,s.next)]) ⟨rfl,by rw [bT];rfl⟩ (by simp) fun p hp=>?_
 simp only [List.mem_singleton] at hp
 subst hp
 simp
theorem Hold.turn {s s':S} {b i:Nat} {H H':List BE} {e e':BE} (h:Hold s b H) (hi:kK H i=some e) (hs:fC H i e'=some H') (hn:s.next≤s'.next)
   (hf:∀ a,Km s e a→Km s' e' a∧∀ p,p ∉ a→yP s s' p):Hold s' b H':=by
 obtain ⟨ls,h1,h2,h3⟩:=h.ex
 obtain ⟨H1,he⟩:=sQ hi
 obtain ⟨a,l',k1,k2,k3⟩:=h1.take hi he
 obtain ⟨k4,k5⟩:=hf a k1
 have hnd:=k3.1 h2
 rw [List.nodup_append] at hnd
 have k6:=k2.congr hn fun p hp=>k5 p fun hpa=>hnd.2.2 p hpa p hp rfl
 obtain ⟨q,k7,k8⟩:=k6.put he hs k4
 exact ⟨q,k7,(k8.trans k3).1 h2,fun p hp=>h3 p ((k8.trans k3).2 p hp)⟩
theorem Mk {s:S} {n:Nat} {B:List (Nat × List V)} {l:Nat} (h:l<n∨n+B.length≤l):(s.blk n B).vars l=s.vars l:=by
 show (if n≤l∧l<n+B.length then _ else _)=_
 rw [if_neg (by omega)]
theorem Hold.set {s:S} {H:List BE} {b i k:Nat} {cs cs':List V} (h:Hold s b H) (hi:kK H i=some (.cell k cs)) {H':List BE} (hs:fC H i (.cell k cs')=some H'):Hold (s.qL k cs') b H':=by
 refine h.turn (s':=s.qL k cs') hi hs (Nat.le_refl s.next) ?_
 rintro a ⟨rfl,h2⟩
 refine ⟨⟨rfl,by simp [S.qL]⟩,fun p hpn=>⟨fun e=>?_,fun _=>rfl⟩⟩
 obtain ⟨p1,p2⟩:=p
 simp only at e
 subst e
 simp only [List.mem_singleton,Prod.mk.injEq,true_and] at hpn
 simp [S.qL,hpn]
mutual
inductive Cons:List BE→V→V→List BE→Prop
 | pl {H v}:v.plain=true→cv v=0→Cons H v v H
 | blk {H H' n d v} (i:Nat):kK H i=some (.blk n d)→v=(kH n d).1→uF H i=some H'→Cons H v d H'
 | acc {H H' id sz us ds} (i:Nat):kK H i=some (.acc id sz us ds)→uF H i=some H'→Cons H (.sl id us) (.sl 0 ds) H'
 | jo {H}:Cons H .jo (.sl 0 []) H
 | zl {H}:Cons H .zl (.sl 0 []) H
 | agg {H H' vs ds}:xE H vs ds H'→Cons H (.agg vs) (.agg ds) H'
inductive xE:List BE→List V→List V→List BE→Prop
 | nil {H}:xE H [] [] H
 | sK {H vs}:V.xV vs=true→bV vs=0→xE H vs vs H
 | cons {H H1 H2 v d vs ds}:Cons H v d H1→xE H1 vs ds H2→xE H (v::vs) (d::ds) H2
end
theorem Cons.bp {H H':List BE} {n:Nat} {d:V} (h:Pick H (.blk n d) H'):Cons H (kH n d).1 d H':=by
 obtain ⟨i,h1,h2⟩:=h.idx
 exact .blk i h1 rfl h2
theorem Cons.ap {H H':List BE} {id sz:Nat} {us ds:List V} (h:Pick H (.acc id sz us ds) H'):Cons H (.sl id us) (.sl 0 ds) H':=by
 obtain ⟨i,h1,h2⟩:=h.idx
 exact .acc i h1 h2
mutual
theorem Cons.sound {s:S}:∀ {H H':List BE} {v d:V},Cons H v d H'→∀ {ls:List (Bool × Nat)},kU s H ls→∃ a l',Pc s v d a∧kU s H' l'∧j4 (a++l') ls
 | _,_,_,_,.pl h1 h2,ls,h=>⟨[],ls,.pl h1 h2,h,j4.refl _⟩
 | _,_,_,_,.blk i h1 h2 h3,ls,h=>by
   obtain ⟨a,l',⟨k1,k2,k3,k4⟩,k5,k6⟩:=h.take h1 h3
   subst k1
   exact ⟨_,l',.kH h2 k2 k3,k5,k6⟩
 | _,_,_,_,.acc (us:=us) (ds:=ds) i h1 h3,ls,h=>by
   obtain ⟨a,l',⟨l1,k1,k2,k3,k4⟩,k5,k6⟩:=h.take h1 h3
   cases hu:us.isEmpty with
   | true =>
     have e:us=[]:=by simpa using hu
     subst e
     have e2:ds=[]:=List.length_eq_zero_iff.1 k2.len
     subst e2
     exact ⟨[],l',.emp,k5,(j4.right a l').trans k6⟩
   | false =>
     subst k1
     exact ⟨_,l',.sl hu k4 k3 k2,k5,k6⟩
 | _,_,_,_,.jo,ls,h=>⟨[],ls,.jo,h,j4.refl _⟩
 | _,_,_,_,.zl,ls,h=>⟨[],ls,.zl,h,j4.refl _⟩
 | _,_,_,_,.agg h1,ls,h=>by
   obtain ⟨a,l',k1,k2,k3⟩:=h1.sound h
   exact ⟨a,l',.agg k1,k2,k3⟩
theorem xE.sound {s:S}:∀ {H H':List BE} {vs ds:List V},xE H vs ds H'→∀ {ls:List (Bool × Nat)},kU s H ls→∃ a l',pX s vs ds a∧kU s H' l'∧j4 (a++l') ls
 | _,_,_,_,.nil,ls,h=>⟨[],ls,.nil,h,j4.refl _⟩
 | _,_,_,_,.sK h1 h2,ls,h=>⟨[],ls,.pl h1 h2,h,j4.refl _⟩
 | _,_,_,_,.cons h1 h2,ls,h=>by
   obtain ⟨a1,l1,k1,k2,k3⟩:=h1.sound h
   obtain ⟨a2,l2,m1,m2,m3⟩:=h2.sound k2
   exact ⟨a1++a2,l2,.cons k1 m1,m2,by rw [List.append_assoc];exact ((j4.refl a1).app m3).trans k3⟩
end
theorem Hold.Gv {s:S} {H:List BE} (h:Hold s s.next H):Hold (s.ext []) (s.ext []).next H:=h.ext []
theorem Own2.Ej {s:S} {H H':List BE} {v d:V} (h:Hold s s.next H) (hc:Cons H v d H'):Own2 d v (s.ext []):=by
 obtain ⟨ls,h1,h2,h3⟩:=h.Gv.ex
 obtain ⟨a,l',k1,k2,k3⟩:=hc.sound h1
 exact ⟨a,k1.tr.1,((j4.left a l').trans k3).1 h2⟩
inductive zK:List BE→List BE→Prop
 | nil {H}:zK H []
 | cons {H H1 e H'} (i:Nat):kK H i=some e→uF H i=some H1→zK H1 H'→zK H (e::H')
theorem zK.p {H H1 H':List BE} {e:BE} (h:Pick H e H1) (t:zK H1 H'):zK H (e::H'):=by
 obtain ⟨i,h1,h2⟩:=h.idx
 exact .cons i h1 h2 t
theorem zK.sound {s:S}:∀ {H H':List BE},zK H H'→∀ {ls:List (Bool × Nat)},kU s H ls→∃ l',kU s H' l'∧j4 l' ls
 | _,_,.nil,ls,h=>⟨[],.nil,fun _=>List.nodup_nil,fun p hp=>by cases hp⟩
 | _,_,.cons i h1 h2 h3,ls,h=>by
   obtain ⟨a,l',k1,k2,k3⟩:=h.take h1 h2
   obtain ⟨q,m1,m2⟩:=h3.sound k2
   exact ⟨a++q,.cons k1 m1,((j4.refl a).app m2).trans k3⟩
theorem Hold.sel {s:S} {b:Nat} {H H':List BE} (h:Hold s b H) (hs:zK H H'):Hold s b H':=by
 obtain ⟨ls,h1,h2,h3⟩:=h.ex
 obtain ⟨l',k1,k2⟩:=hs.sound h1
 exact ⟨l',k1,k2.1 h2,fun p hp=>h3 p (k2.2 p hp)⟩
inductive wL:List BE→V→List V→List V→List BE→Prop
 | acc {H H' id sz us ds} (i:Nat):kK H i=some (.acc id sz us ds)→uF H i=some H'→wL H (.sl id us) us ds H'
 | pl {H H' id us ds}:xE H us ds H'→wL H (.sl id us) us ds H'
 | jo {H}:wL H .jo [] [] H
 | zl {H}:wL H .zl [] [] H
theorem wL.ap {H H':List BE} {id sz:Nat} {us ds:List V} (h:Pick H (.acc id sz us ds) H'):wL H (.sl id us) us ds H':=by
 obtain ⟨i,h1,h2⟩:=h.idx
 exact .acc i h1 h2
theorem wL.sound {s:S} {H H':List BE} {w:V} {vs ds:List V} (hc:wL H w vs ds H') {ls:List (Bool × Nat)} (h:kU s H ls):iW w=some vs∧∃ a l',pX s vs ds a∧kU s H' l'∧j4 (a++l') ls:=by
 cases hc with
 | acc i h1 h3 =>
   obtain ⟨a,l',⟨l1,k1,k2,k3,k4⟩,k5,k6⟩:=h.take h1 h3
   subst k1
   exact ⟨rfl,l1,l',k2,k5,((j4.left l1 _).app (j4.refl l')).trans k6⟩
 | pl h1=>exact ⟨rfl,h1.sound h⟩
 | jo=>exact ⟨rfl,[],ls,.nil,h,j4.refl _⟩
 | zl=>exact ⟨rfl,[],ls,.nil,h,j4.refl _⟩
mutual
inductive rX (H:List BE):V→V→Prop
 | pl {v}:v.plain=true→rX H v v
 | th {n d v}:BE.blk n d∈H→v=(kH n d).1→rX H v d
 | mk {n d k v}:BE.blk n (mkT d k)∈H→v=(kH n d).1→rX H v (mkT d k)
 | acc {id sz us ds}:BE.acc id sz us ds∈H→rX H (.sl id us) (.sl 0 ds)
 | own {v d}:BE.own v d∈H→rX H v d
 | jS:rX H (.qJ (.is 0) 0 0 0) (.sl 0 [])
 | Ny {id sz:Nat} {us ds:List V} {k:Nat} {v d:V}:BE.acc id sz us ds∈H→us[k]?=some v→ds[k]?=some d→rX H v d
 | jo:rX H .jo (.sl 0 [])
 | zl:rX H .zl (.sl 0 [])
 | agg {vs ds}:ZM H vs ds→rX H (.agg vs) (.agg ds)
 | ptr {l k cs ds}:BE.cell l cs∈H→ZM H cs ds→rX H (.ptr l k) (.xG ds k)
 | fn {f cs ds}:ZM H cs ds→rX H (.fn f cs) (.fn f ds)
 | xG {cs k}:rX H (.xG cs k) (.xG cs k)
inductive ZM (H:List BE):List V→List V→Prop
 | nil:ZM H [] []
 | cons {v vs d ds}:rX H v d→ZM H vs ds→ZM H (v::vs) (d::ds)
end
theorem rX.R5 {H:List BE} {n:Nat} {d:V} (h:BE.blk n d∈H):rX H (kH n d).1 d := .th h rfl
theorem rX.mk' {H:List BE} {n:Nat} {d:V} {k:Int} (h:BE.blk n (mkT d k)∈H):rX H (kH n d).1 (mkT d k) := .mk h rfl
theorem rX.R6 {H:List BE} {n:Nat} {d v:V} (e:v=(kH n d).1) (h:BE.blk n d∈H):rX H v d := .th h e
theorem rX.Rw {H:List BE} {l k:Nat} {cs ds:List V} (h:BE.cell l cs∈H) (r:ZM H cs ds):rX H (.ptr l k) (.xG ds k) := .ptr h r
theorem uZ.get {s:S}:∀ {vs ds:List V},uZ s vs ds→∀ {k:Nat} {v d:V},vs[k]?=some v→ds[k]?=some d→Rd s v d
 | _,_,.nil,k,v,d,h,_=>by simp at h
 | _,_,.cons h _,0,v,d,h1,h2=>by simp at h1 h2;subst h1;subst h2;exact h
 | _,_,.cons _ t,k+1,v,d,h1,h2=>uZ.get t (k:=k) (by simpa using h1) (by simpa using h2)
theorem Rd.E9 {s:S} {v:V} {i:Nat} {l:List V} (h:Rd s v (.sl i l)):yt v=some [v]:=by
 cases h with
 | qP h=>cases h
 | _=>rfl
mutual
theorem rX.rd {s:S} {b:Nat} {H:List BE} (hh:Hold s b H):∀ {v d:V},rX H v d→Rd s v d
 | _,_,.pl h=>Rd.plain _ h
 | _,_,.th h e=>by
   obtain ⟨h1,h2,h3⟩:=hh.get h
   rw [e]
   exact Zy _ _ h2 h3
 | _,_,.mk (n:=n) (d:=d) (k:=k) h e=>by
   obtain ⟨h1,h2,h3⟩:=hh.get h
   rw [e, ← Wn d n k]
   exact Zy _ _ h2 h3
 | _,_,.acc h => .sl (hh.UO h).2.2.2
 | _,_,.own h=>by
   obtain ⟨a,h1,_⟩:=hh.at h
   exact Ow.rd h1
 | _,_,.jS => .jS
 | _,_,.Ny h h1 h2=>(hh.UO h).2.2.2.get h1 h2
 | _,_,.jo => .jo
 | _,_,.zl => .zl
 | _,_,.agg h => .agg (ZM.rd' hh h)
 | _,_,.ptr h k => .ptr (hh.cell h).2 (ZM.rd' hh k)
 | _,_,.fn h => .fn (ZM.rd' hh h)
 | _,_,.xG => .xG
theorem ZM.rd' {s:S} {b:Nat} {H:List BE} (hh:Hold s b H):∀ {vs ds:List V},ZM H vs ds→uZ s vs ds
 | _,_,.nil => .nil
 | _,_,.cons h t => .cons (rX.rd hh h) (ZM.rd' hh t)
end
theorem ZM.rd {s:S} {H:List BE} (hh:Hold s s.next H) {vs ds:List V} (h:ZM H vs ds):uZ (s.ext []) vs ds:=h.rd' hh.Gv
theorem jE (s:S) (xs:List Own):(s.ext xs).ext []=s.ext xs:=by
 refine S.ext_eq (fun x=>?_) (fun x=>?_) rfl
 · show (if x < (s.ext xs).next then (s.ext xs).vars x else Own.cells? _) = _
   split
   · rfl
   · rename_i h
     rw [q8] at h
     show _=(if x<s.next then s.vars x else Own.cells? xs[x - s.next]?)
     rw [if_neg (by omega),List.getElem?_nil,List.getElem?_eq_none (show xs.length≤x - s.next by omega)]
 · show (if x < (s.ext xs).next then (s.ext xs).xJ x else Own.rG _) = _
   split
   · rfl
   · rename_i h
     rw [q8] at h
     show _=(if x<s.next then s.xJ x else Own.rG xs[x - s.next]?)
     rw [if_neg (by omega),List.getElem?_nil,List.getElem?_eq_none (show xs.length≤x - s.next by omega)]
def Gw (P:Program) (f:FuncId) (d:V):Prop:=∀ (t:S) (n:Nat) (k:Int),uQ t n (kH n d).2→n+cv d≤t.next→0≤k→Uk d k≤4000000000000 →
 VCalls P f [(kH n d).1,.int .i64 k] t (fun v t'=>v = .int .i64 (Uk d k)∧t'=t.blk n (kH n (mkT d k)).2)
def Py (P:Program) (f:FuncId) (d:V):Prop:=∀ (k:Int) (s:S),0≤k→Uk d k≤4000000000000→VCalls P f [mkT d k,.int .i64 k] s (fun v s'=>v = .int .i64 (Uk d k)∧s'=s)
theorem CY.R7 {P:Program} {f:FuncId} {id:Nat} {xs:List V} (h:CY P f (.sl id xs)):Gw P f (.sl id xs):=fun t n k hv _ h0 hb=>h t n k hv h0 hb
theorem uJ {α : Type}:∀ (l:List α),Z4 l []=some l
 | []=>rfl
 | x::l=>by simp only [Z4,uJ l]
section
variable {P:Program} {N:Nat} {ops:Array Oper} {l:List Oper} {K:Kn→S→Prop} {L:Kn} {s:S} {d:Nat} {ty:TypeId} {p:String} {a:Array Edge} {H:List BE}
theorem Bh {s:S} {dv:V}:(s.ext []).ext (jv (s.ext []).next dv)=(s.ext (jv s.next dv)).ext []:=by
 rw [iQ,jE]
 rfl
theorem zq.nC {f:Operand} {g:FuncId} {args:Array Operand} {B:Array TypeId} {caps us vs ds:List V} {dv:V} (hf:jf L f=some (.fn g caps)) (ha:uE L args.toList=some us) (hap:Z4 us caps=some vs) (hok:zW P g) (hh:Hold s s.next H) (hrd:ZM H vs ds)
   (hc:∀ t,VCalls P g ds t (fun v t'=>Own2 dv v t')) (hp:dv.plain=true) (hk:∀ (s':S) (n:Nat),Hold s' s'.next (.blk n dv::H)→zq P N ops l K ((d,(kH n dv).1)::L) (s'.ext [])) :
   zq P N ops (⟨some d,.call ⟨.value f,args,B⟩,ty,p,a,none⟩::l) K L (s.ext []):=by
 refine .call hf ha hap hok (VCalls.Wm (hrd.rd hh) hc) fun v s' hv=>?_
 obtain ⟨rfl,rfl⟩:=hv
 rw [Bh]
 exact hk _ _ (hh.push hp)
theorem zq.Gy {f:Operand} {g:FuncId} {args:Array Operand} {B:Array TypeId} {vs ds:List V} {dv:V} (hf:jf L f=some (.fn g [])) (ha:uE L args.toList=some vs) (hok:zW P g) (hh:Hold s s.next H) (hrd:ZM H vs ds)
   (hc:∀ t,VCalls P g ds t (fun v t'=>Own2 dv v t')) (hp:dv.plain=true) (hk:∀ (s':S) (n:Nat),Hold s' s'.next (.blk n dv::H)→zq P N ops l K ((d,(kH n dv).1)::L) (s'.ext [])) :
   zq P N ops (⟨some d,.call ⟨.value f,args,B⟩,ty,p,a,none⟩::l) K L (s.ext []) := .nC hf ha (uJ _) hok hh hrd hc hp hk
variable {tt:BT}
theorem bW {s:S} {k:Nat} (h:k<s.next) (cs:List V):(s.ext []).qL k cs=(s.qL k cs).ext []:=iP s [] h cs
theorem rJ {s:S} {k:Nat} (h:k<s.next) (n sz:Nat):(s.ext []).xX k n sz=(s.xX k n sz).ext []:=by
 refine S.ext_eq (fun x=>rfl) (fun x=>?_) rfl
 simp only [S.xX,S.ext]
 by_cases h1:x=k
 · simp [h1,h]
 · simp [h1]
theorem zq.gZ {T:TypeId} {x:Operand} {v:V} {cs:List V} (hh:Hold s s.next H) (hx:jf L x=some v) (hc:yt v=some cs) (hk:∀ (s':S) (n:Nat),Hold s' s'.next (.cell n cs::H)→zq P N ops l K ((d,.ptr n 0)::L) (s'.ext [])) :
   zq P N ops (⟨some d,.box T x,ty,p,a,none⟩::l) K L (s.ext []):=by
 refine .st (v := .ptr s.next 0) (s':=(s.ext [.var cs]).ext []) (fun σ hσ => ?_) (hk _ _ (hh.new cs))
 simp only [vU,qd hσ hx,Option.map_some,vG hc,wZ,jE]
 rfl
theorem zq.kR (ht:tt.ok P) {T:TypeId} {t:Ty} (hh:Hold s s.next H) (hT:tt.get T=some t) (hz:(Nat.beq t.zero.length t.size&&Nat.blt 0 t.size)=true) (hk:∀ (s':S) (n:Nat),Hold s' s'.next (.cell n t.zero::H)→zq P N ops l K ((d,.ptr n 0)::L) (s'.ext [])) :
   zq P N ops (⟨some d,.alloc T,ty,p,a,none⟩::l) K L (s.ext []):=by
 refine .st (v := .ptr s.next 0) (s':=(s.ext [.var t.zero]).ext []) (fun σ hσ => ?_) (hk _ _ (hh.new t.zero))
 simp only [vU,oG,ht.get hT,Option.bind_some,wZ,jE]
 simp only [Bool.and_eq_true] at hz
 first
   | rfl
   |(rw [if_pos ⟨Nat.eq_of_beq_eq_true hz.1,by simpa using hz.2⟩];rfl)
theorem zq.zN (ht:tt.ok P) {T:TypeId} {u:Ty} {x y:Operand} {k off:Nat} {cs cs' vs:List V} {v:V} {H':List BE} (i:Nat) (hh:Hold s s.next H) (hx:jf L x=some (.ptr k off)) (hi:kK H i=some (.cell k cs)) (hy:jf L y=some v) (hT:tt.get T=some u)
   (hc:yt v=some vs) (ho:eH vs=true) (hn:Nat.beq vs.length u.size=true) (hsp:Z5 cs off vs=some cs') (hs:fC H i (.cell k cs')=some H') (hk:∀ s':S,Hold s' s'.next H'→zq P N ops l K L (s'.ext [])) :
   zq P N ops (⟨none,.store T x y,ty,p,a,none⟩::l) K L (s.ext []):=by
 obtain ⟨h1,h2⟩:=hh.cell (List.mem_of_getElem? (kF hi))
 refine .M5 (v := .und) (s':=(s.qL k cs').ext []) (fun σ hσ => ?_) (hk _ (hh.set hi hs))
 obtain ⟨h3,h4⟩:=iX hsp
 have h5:vs.length=u.size:=Nat.eq_of_beq_eq_true hn
 simp only [vU,qd hσ hx,qd hσ hy,lS,ht.get hT,kg s [] (show k<s.next by omega),h2,vG hc,Option.bind_some]
 rw [if_pos ⟨h5,by omega,cB ho⟩,Option.map_some,bW (by omega),h3]
theorem zq.Bl (ht:tt.ok P) {T:TypeId} {u:Ty} {x y:Operand} {k off n0:Nat} {cs cs' ds:List V} {v:V} {H':List BE} (i:Nat) (hh:Hold s s.next H) (hx:jf L x=some (.ptr k off)) (hi:kK H i=some (.cell k cs)) (hy:jf L y=some v) (hT:tt.get T=some u)
   (hv:v=(kH n0 (.sl 0 ds)).1) (hn:Nat.beq 1 u.size=true) (hsp:Z5 cs off [(kH n0 (.sl 0 ds)).1]=some cs') (hs:fC H i (.cell k cs')=some H') (hk:∀ s':S,Hold s' s'.next H'→zq P N ops l K L (s'.ext [])) :
   zq P N ops (⟨none,.store T x y,ty,p,a,none⟩::l) K L (s.ext []):=by
 subst hv
 exact .zN ht i hh hx hi hy hT (mY n0 0 ds) (YL n0 0 ds) hn hsp hs hk
theorem zk.zM (ht:tt.ok P) {T:TypeId} {u:Ty} {x:Operand} {k off:Nat} {cs:List V} {v:V} (i:Nat) (hh:Hold s s.next H) (hx:jf L x=some (.ptr k off)) (hi:kK H i=some (.cell k cs)) (hT:tt.get T=some u) (hr:gq cs off u.size u.agg=some v) :
   zk P (.load T x) L (s.ext []) v:=by
 obtain ⟨h1,h2⟩:=hh.cell (List.mem_of_getElem? (kF hi))
 exact zk.Zx ht hx (by omega) h2 hT hr
def V.isAgg:V→Bool
 | .agg _=>true
 | _=>false
def jM (te:Ty) (vs:List V):Prop:=∀ v∈vs,v.cells.length=te.size∧v.fits te.agg=true
theorem jM.of {te:Ty} {vs:List V} (h:pq te vs=true):jM te vs:=fun v hv=>dz (dx h v hv)
theorem jM.nil {te:Ty}:jM te []:=fun v hv=>by cases hv
theorem jM.map {α : Type} {f : α → V} {te:Ty} {l:List α} (h:∀ x,ru te (f x)=true):jM te (l.map f):=fun v hv=>by
 obtain ⟨x,_,rfl⟩:=List.mem_map.1 hv
 exact dz (h x)
theorem jM.c1 {te:Ty} {v:V} {vs:List V} (h:ru te v=true) (t:jM te vs):jM te (v::vs):=fun x hx=>by
 rcases List.mem_cons.1 hx with rfl | hx
 · exact dz h
 · exact t x hx
theorem UR (d:V) (n:Nat) (b:Bool) (h:d.fits b=true):(kH n d).1.fits b=true:=by
 cases d with
 | agg cs=>exact h
 | sl id xs =>
   have h1:=uj n id xs
   unfold kH at h1 ⊢
   cases xs.isEmpty
   · exact h
   · exact h
 | jY vs=>simp [V.fits,V.one] at h
 | _=>exact h
theorem jM.ct {te:Ty} {d v:V} {n:Nat} {vs:List V} (hv:v=(kH n d).1) (h:ru te d=true) (t:jM te vs):jM te (v::vs):=fun x hx=>by
 rcases List.mem_cons.1 hx with rfl | hx
 · subst hv
   obtain ⟨h1,h2⟩:=dz h
   exact ⟨by rw [iT];exact h1,UR d n _ h2⟩
 · exact t x hx
theorem Fz {v:V} (h:v.fits false=true):v.cells.all V.one=true:=by
 cases v <;> simp_all [V.fits,V.cells,V.one]
theorem zS.nil {te:Ty}:zS te []:=rfl
theorem zS.ct {te:Ty} {d v:V} {n:Nat} {vs:List V} (hv:v=(kH n d).1) (h:(Nat.beq d.cells.length te.size&&d.cells.all V.one)=true) (t:zS te vs):zS te (v::vs):=by
 subst hv
 simp only [Bool.and_eq_true] at h
 have h1:=Nat.eq_of_beq_eq_true h.1
 unfold zS at t ⊢
 rw [List.all_cons,t,Zu n h.2,iT]
 simp [h1]
theorem zS.cg {te:Ty} {cs vs:List V} (hn:Nat.beq cs.length te.size=true) (ho:eH cs=true) (t:zS te vs):zS te (.agg cs::vs):=by
 have h1:=Nat.eq_of_beq_eq_true hn
 have h2:=cB ho
 unfold zS at t ⊢
 rw [List.all_cons,t]
 simp [V.cells,h1,h2]
theorem pX.sizes {s:S} {vs ds:List V} {ls:List (Bool × Nat)} {k:Nat} (h:pX s vs ds ls) (hv:∀ v∈vs,v.cells.length=k):∀ d∈ds,d.cells.length=k:=uZ.iU h.rd hv
theorem zq.XK (ht:tt.ok P) {T e:TypeId} {t te:Ty} {m:Nat} {parts:Array (Nat × Operand)} {ps:List (Nat × V)} {vs ds:List V} {H':List BE} (hp:mJ L parts.toList=some ps) (hT:tt.get T=some t) (hkd:t.kd = .slice e) (hte:tt.get e=some te)
   (hz:(Nat.beq te.zero.length te.size&&Nat.blt 0 te.size&&Nat.ble (m*te.size) 16777216)=true) (Ut:Xh 0 ps=some vs) (hlen:Nat.beq vs.length m=true) (hm:Nat.beq m 0=false) (hh:Hold s s.next H) (hc:xE H vs ds H') (hel:jM te vs)
   (hk:∀ (s':S) (n:Nat),Hold s' s'.next (.acc n te.size vs ds::H')→zq P N ops l K ((d,.sl n vs)::L) (s'.ext [])):zq P N ops (⟨some d,.buildSlice T m parts,ty,p,a,none⟩::l) K L (s.ext []):=by
 simp only [Bool.and_eq_true] at hz
 have hm':vs.length=m:=Nat.eq_of_beq_eq_true hlen
 have h0:¬ m=0:=fun e=>by rw [e] at hm;cases hm
 have hz1:te.zero.length=te.size:=Nat.eq_of_beq_eq_true hz.1.1
 have hz2:0<te.size:=by simpa using hz.1.2
 have hz3:m*te.size≤16777216:=Nat.le_of_ble_eq_true hz.2
 have hcl:∀ v∈vs,v.cells.length=te.size:=fun v hv=>(hel v hv).1
 have hf:∀ v∈vs,v.fits te.agg=true:=fun v hv=>(hel v hv).2
 have gy:=aQ (n:=m) hz1 (us:=[]) (by simpa using Ut) (by simpa using hcl) (by simp;omega)
 rw [List.nil_append,wS hm',aY] at gy
 have hsz1:te.agg=false→te.size=1:=fun hag=>by
   cases vs with
   | nil=>exact absurd hm'.symm h0
   | cons v r =>
     obtain ⟨h1,h2⟩:=hel v (by simp)
     rw [← h1]
     rw [hag] at h2
     cases v <;> simp_all [V.fits,V.cells,V.one]
 have hnew:Hold (s.ext [.fam m te.size]) (s.ext [.fam m te.size]).next (.acc s.next te.size vs ds::H'):=by
   obtain ⟨ls,h1,h2,h3⟩:=hh.ex
   obtain ⟨b,l',k1,k2,k3⟩:=hc.sound h1
   have hnd:=k3.1 h2
   have hlt:∀ p∈b++l',p.2<s.next:=fun p hp=>h3 p (k3.2 p hp)
   refine ⟨(b++[(false,s.next)])++l',.cons ⟨b,rfl,k1.congr fun p hp => .lt (hlt p (List.mem_append_left _ hp)),by rw [cu,hm'];rfl,k1.sizes hcl⟩ (k2.congr (by rw [q8];omega) fun p hp => .lt (hlt p (List.mem_append_right _ hp))),?_,fun p hp=>?_⟩
   · have hr:j4 ((b++[(false,s.next)])++l') ([(false,s.next)]++(b++l')):=by
       rw [← List.append_assoc]
       exact (j4.comm b _).app (j4.refl l')
     refine hr.1 ?_
     rw [List.singleton_append,List.nodup_cons]
     exact ⟨fun hm=>by have:=hlt _ hm;simp at this,hnd⟩
   · rw [q8]
     simp only [List.mem_append,List.mem_singleton] at hp
     rcases hp with (hp | rfl) | hp
     · have:=hlt p (List.mem_append_left _ hp);simp only [List.length_singleton];omega
     · simp
     · have:=hlt p (List.mem_append_right _ hp);simp only [List.length_singleton];omega
 refine .st (v := .sl s.next vs) (s':=(s.ext [.fam m te.size]).ext []) (fun σ hσ => ?_) (hk _ _ hnew)
 simp only [vU,dO hσ hp,ku,ht.get hT,hkd,ht.get hte,Option.bind_some]
 rw [if_pos ⟨hz1,hz2,hz3⟩,gy]
 simp only [Option.bind_some]
 have hck:=aU hz2 hcl hf
 rw [hm'] at hck
 rw [if_neg h0,if_pos (uR hf hsz1),hck,wH,List.nil_append,jE]
 rfl
theorem zq.appH (ht:tt.ok P) {T U e:TypeId} {t te:Ty} {x y:Operand} {id sz:Nat} {us ds vs ZN:List V} {w:V} {H1 H2:List BE} (i:Nat) (hx:jf L x=some (.sl id us)) (hi:kK H i=some (.acc id sz us ds)) (he:uF H i=some H1) (hy:jf L y=some w)
   (hT:tt.get T=some t) (hkd:t.kd = .slice e) (hte:tt.get e=some te) (hz:(Nat.beq te.zero.length te.size&&Nat.blt 0 te.size)=true) (hsz:Nat.beq sz te.size=true) (hU:Nat.beq U T=true) (hh:Hold s s.next H)
   (hc:wL H1 w vs ZN H2) (hall:zS te vs) (hb:xU (us.length+vs.length) te.bytes)
   (hk:∀ s':S,Hold s' s'.next (.acc id te.size (us++vs) (ds++ZN)::H2)→zq P N ops l K ((d,.sl id (us++vs))::L) (s'.ext [])):zq P N ops (⟨some d,jQ x y #[T,U],ty,p,a,none⟩::l) K L (s.ext []):=by
 simp only [Bool.and_eq_true] at hz
 have Vv:=Nat.eq_of_beq_eq_true hU
 subst Vv
 have hsz':=Nat.eq_of_beq_eq_true hsz
 subst hsz'
 have hels:∀ v∈vs,v.cells.length=te.size:=fun v hv=>by
   unfold zS at hall
   have:=List.all_eq_true.1 hall v hv
   rw [Bool.and_eq_true,decide_eq_true_eq] at this
   exact this.1
 obtain ⟨ls,h1,h2,h3⟩:=hh.ex
 obtain ⟨b,l',⟨l1,rfl,k2,k3,k4⟩,k5,k6⟩:=h1.take hi he
 obtain ⟨hw,b2,l2,m1,m2,m3⟩:=hc.sound k5
 have hid:id<s.next:=h3 (false,id) (k6.2 _ (by simp))
 have CU:j4 ((l1++[(false,id)])++(b2++l2)) ls:=((j4.refl _).app m3).trans k6
 have hnd:=CU.1 h2
 have hne:∀ p,p∈l1++(b2++l2)→yP s (s.xX id (us.length+vs.length) te.size) p:=by
   intro p hp
   refine ⟨fun _=>rfl,fun e=>?_⟩
   have:p.2≠id:=fun e2=>by
     have e3:p=(false,id):=by obtain ⟨p1,p2⟩:=p;simp only at e e2;rw [e,e2]
     subst e3
     rw [List.nodup_append,List.nodup_append] at hnd
     rcases List.mem_append.1 hp with hp | hp
     · exact hnd.1.2.2 _ hp _ (by simp) rfl
     · exact hnd.2.2 (false,id) (by simp) _ hp rfl
   simp [S.xX,this]
 have hnew:Hold (s.xX id (us.length+vs.length) te.size) (s.xX id (us.length+vs.length) te.size).next (.acc id te.size (us++vs) (ds++ZN)::H2):=by
   refine ⟨((l1++b2)++[(false,id)])++l2,.cons ⟨l1++b2,rfl,(k2.congr fun p hp=>hne p (List.mem_append_left _ hp)).append (m1.congr fun p hp=>hne p (List.mem_append_right _ (List.mem_append_left _ hp))),by simp [S.xX],fun x hx=>?_⟩
     (m2.congr (s':=s.xX id (us.length+vs.length) te.size) (Nat.le_refl s.next) fun p hp=>hne p (List.mem_append_right _ (List.mem_append_right _ hp))),?_,fun p hp=>?_⟩
   · rcases List.mem_append.1 hx with hx | hx
     · exact k4 x hx
     · exact m1.sizes hels x hx
   · have hr:j4 (((l1++b2)++[(false,id)])++l2) ((l1++[(false,id)])++(b2++l2)):=by
       rw [List.append_assoc l1 b2,List.append_assoc l1,List.append_assoc l1]
       refine (j4.refl l1).app ?_
       rw [← List.append_assoc]
       exact (j4.comm b2 _).app (j4.refl l2)
     exact hr.1 hnd
   · have hp':p∈(l1++[(false,id)])++(b2++l2):=by
       simp only [List.mem_append] at hp ⊢
       rcases hp with ((hp | hp) | hp) | hp
       · exact .inl (.inl hp)
       · exact .inr (.inl hp)
       · exact .inl (.inr hp)
       · exact .inr (.inr hp)
     exact h3 p (CU.2 p hp')
 refine .st (v := .sl id (us++vs)) (s':=(s.xX id (us.length+vs.length) te.size).ext []) (fun σ hσ => ?_) (hk _ hnew)
 simp only [jQ,vU,uh,qd hσ hx,qd hσ hy,j3,y7,ht.get hT,hkd,ht.get hte,yN hw,Option.bind_some,Option.map_some,if_true]
 rw [if_pos ⟨Nat.eq_of_beq_eq_true hz.1,by simpa using hz.2,hall⟩,wo s [] hid,k3]
 simp only [Option.bind_some]
 rw [if_pos ⟨trivial,trivial,hb.1,hb.2⟩,rJ hid]
end
theorem zn.xM {P:Program} {tt:BT} {s:S} {L:Kn} {H:List BE} (i:Nat) (ht:tt.ok P) {x:Nat} {T:TypeId} {t:Ty} {k off:Nat} {cs:List V} {v:V} (hh:Hold s s.next H) (hx:lk L x=some (.ptr k off)) (hi:kK H i=some (.cell k cs)) (hT:tt.get T=some t)
   (hr:gq cs off t.size t.agg=some v):zn P (.cell x T) L (s.ext []) v:=fun σ hσ => by
 obtain ⟨h1,h2⟩:=hh.cell (List.mem_of_getElem? (kF hi))
 simp only [nu,hσ x _ hx,eF,ht.get hT,kg s [] (show k<s.next by omega),h2,aD hr,Option.bind_some]
theorem VCalls.Gu {P:Program} {f:FuncId} {vs ds:List V} {r:V} {s:S} {H:List BE} (hr:r.qP=true) (hh:Hold s s.next H) (hrd:ZM H vs ds) (h:∀ t,VCalls P f ds t (fun v t'=>v=r∧t'=t)) :
   VCalls P f vs (s.ext []) (fun v s'=>v=r∧s'=s.ext []):=VCalls.Gz hr (hrd.rd hh) h
theorem Own2.Ga {d v:V} {t:S} {us:List V} (h:Own2 d v t) (hu:us.all V.qP=true):Own2 (.jY (d::us)) (.jY (v::us)) t:=by
 obtain ⟨ls,h1,h2⟩:=h
 exact ⟨ls++[],.jY (.cons h1 (eO.qP hu)),by rw [List.append_nil];exact h2⟩
theorem ql.Gb {E:Env}:∀ {cs:List V} {vals:List Value},ql E cs vals→∀ {k:Nat} {v v':V},cs[k]?=some v→(∀ val,qy E v val→qy E v' val)→ql E (cs.set k v') vals
 | _,_,.nil,k,v,v',h,_=>by simp at h
 | _,_,.cons h t,0,v,v',h1,h2=>by simp at h1;subst h1;exact .cons (h2 _ h) t
 | _,_,.cons h t,k+1,v,v',h1,h2 => .cons h (ql.Gb t (k:=k) (by simpa using h1) h2)
theorem xg.Gc {E:Env} {s:S} (hr:xg E s) {l k:Nat} {cs:List V} {v v':V} (hv:s.vars l=some cs) (hk:cs[k]?=some v) (h:∀ val,qy E v val→qy E v' val):xg E (s.qL l (cs.set k v')):=by
 have hsome:∀ x,((s.qL l (cs.set k v')).vars x).isSome=true→(s.vars x).isSome=true:=fun x hx=>by
   by_cases e:x=l
   · rw [e,hv];rfl
   · rw [aB e] at hx;exact hx
 refine ⟨fun x c hx=>?_,fun a b g ha hb=>hr.vv a b g (hsome a ha) (hsome b hb),hr.fam,hr.vL,fun a g id F ha=>hr.jL a g id F (hsome a ha),hr.fresh,hr.pos,hr.vY⟩
 by_cases e:x=l
 · subst e
   rw [K3] at hx
   cases hx
   obtain ⟨g,arr,e,fr,h1,h2⟩:=hr.var x cs hv
   refine ⟨g,arr,e,fr,h1,h2.heap,?_,by rw [List.length_set];exact h2.le,fun o ho=>h2.free o (by rw [List.length_set] at ho;exact ho),h2.vY⟩
   rw [List.length_set]
   exact h2.rep.Gb hk h
 · rw [aB e] at hx
   exact hr.var x c hx
theorem Step.qL {E:Env} {s:S} {l:Nat} {cs:List V} (h:(s.vars l).isSome=true) (cs':List V) (_:s.vars l=some cs):Step E s E (s.qL l cs'):=by
 refine ⟨.refl E,rfl,rfl,rfl,Nat.le_refl _,fun _ _ _=>rfl,fun k _ ht=>?_,Nat.le_refl _⟩
 rcases ht with ⟨x,hx,hg⟩ | ht
 · refine .inl ⟨x, ?_, hg⟩
   by_cases e:x=l
   · rw [e];exact h
   · rw [aB e] at hx;exact hx
 · exact .inr ht
section
variable {P:Program} {N:Nat} {L:Kn} {s:S} {H:List BE}
theorem WL.CB {c:Code} {Q:Exit→Kn→S→Prop} {t:Nat} {v:V} (sz:Nat) (hx:lk L t=some v) (hv:Zq v=true) (hh:Hold s s.next H) (h:∀ (s':S) (n:Nat),Hold s' s'.next (.acc n sz [] []::H)→WL P N c Q ((t,.sl n [])::L) (s'.ext [])):WL P N c Q L (s.ext []):=by
 refine WL.mV sz hx hv rfl rfl ?_
 have:=h (s.ext [.fam 0 sz]) s.next (hh.more (e := .acc s.next sz [] []) (a:=[(false,s.next)]) ⟨[],rfl,.nil,by rw [cu];rfl,fun d hd=>by cases hd⟩ (by simp) fun p hp=>by
   simp only [List.mem_singleton] at hp
   subst hp
   simp)
 rw [jE] at this
 exact this
theorem WL.U0 {c:Code} {Q:Exit→Kn→S→Prop} {l:Nat} {cs:List V} {v:V} (i k sz:Nat) (hi:kK H i=some (.cell l cs)) (hk:kK cs k=some v) (hv:Zq v=true) (hh:Hold s s.next H)
   (h:∀ (s':S) (n:Nat),(∀ cs',fC cs k (.sl n [])=some cs'→∀ H',fC H i (.cell l cs')=some H'→Hold s' s'.next (.acc n sz [] []::H'))→WL P N c Q L (s'.ext [])):WL P N c Q L (s.ext []):=by
 have hh':Hold (s.ext [.fam 0 sz]) (s.ext [.fam 0 sz]).next (.acc s.next sz [] []::H):=hh.more (e := .acc s.next sz [] []) (a:=[(false,s.next)]) ⟨[],rfl,.nil,by rw [cu];rfl,fun d hd=>by cases hd⟩ (by simp) fun p hp=>by
   simp only [List.mem_singleton] at hp
   subst hp
   simp
 obtain ⟨hl1,hl2⟩:=hh.cell (List.mem_of_getElem? (kF hi))
 have hl3:(s.ext [.fam 0 sz]).vars l=some cs:=by rw [kg _ _ (by omega)];exact hl2
 have hw:=h ((s.ext [.fam 0 sz]).qL l (cs.set k (.sl s.next []))) s.next fun cs' e1 H' e2=>by
   rw [← sw e1]
   refine hh'.set (i:=i+1) (cs:=cs) (by exact hi) ?_
   simp only [fC,e2]
 refine ⟨fun σ hσ E act h1 h2=>?_⟩
 obtain ⟨st,r⟩:=y8 h1 sz
 have e1:(s.ext []).kL 0 sz=s.ext [.fam 0 sz]:=wH s [] 0 sz
 have e0:(s.ext []).next=s.next:=rfl
 rw [e1,e0] at st r
 have hf:oC { E with fam:=fun x=>if x=s.next then some ⟨0,none,0,sz⟩ else E.fam x } s.next := .inr ⟨⟨0,none,0,sz⟩,by simp,fun _=>rfl⟩
 have r2:=r.Gc (v' := .sl s.next []) hl3 (kF hk) fun val hval=>by
   unfold Zq at hv
   split at hv
   · cases hval;exact .iy hf
   · cases hval;exact .iy hf
   · cases hv
 have st2:Step E (s.ext []) { E with fam:=fun x=>if x=s.next then some ⟨0,none,0,sz⟩ else E.fam x } ((s.ext [.fam 0 sz]).qL l (cs.set k (.sl s.next []))):=st.trans (Step.qL (by rw [hl3];rfl) _ hl3)
 have hs':((s.ext [.fam 0 sz]).qL l (cs.set k (.sl s.next []))).ext []=(s.ext [.fam 0 sz]).qL l (cs.set k (.sl s.next [])):=by
   rw [← iP (s.ext [.fam 0 sz]) [] (by rw [q8];omega),jE]
 rw [hs'] at hw
 exact wp_mono (hw.run σ hσ { E with fam:=fun x=>if x=s.next then some ⟨0,none,0,sz⟩ else E.fam x } act r2 (h2.xQ st.ev)) fun _ _ _ hz=>After.trans st2 hz
def Bn {α : Type} (M : α → Nat) (LI : α → Kn) (HI : α → List BE) (I : α → Prop) (x : α) (Q:Exit→Kn→S→Prop):Exit→Kn→S→Prop
 | .normal,L',s'=>∃ y t,I y∧M y<M x∧qz (LI y) L'∧s'=t.ext []∧Hold t t.next (HI y)
 | e,L',s'=>Q e L' s'
structure kW {α : Type} (M : α → Nat) (LI : α → Kn) (HI : α → List BE) (I : α → Prop) (x : α) (Q:Exit→Kn→S→Prop) (e:Exit) (L:Kn) (s':S):Prop where
 h:Bn M LI HI I x Q e L s'
theorem WL.yw {α : Type} {c:Code} {Q:Exit→Kn→S→Prop} (M : α → Nat) (LI : α → Kn) (HI : α → List BE) (I : α → Prop) (x0 : α) (h0:I x0) (hL:qz (LI x0) L) (hh:Hold s s.next H) (hH:zK H (HI x0))
   (round:∀ (x : α) (s:S),I x→Hold s s.next (HI x)→WL P N c (kW M LI HI I x Q) (LI x) (s.ext [])):WL P N (.loop c) Q L (s.ext []):=by
 refine ⟨fun σ hσ => wY.loop (fun n σ s=>∃ x t,M x=n∧I x∧At (LI x) σ ∧ s=t.ext []∧Hold t t.next (HI x)) (M x0) ⟨x0,s,rfl,h0,hL.at hσ,rfl,hh.sel hH⟩ ?_⟩
 rintro n σ s ⟨x,t,rfl,hI,hat,rfl,hx⟩
 refine ((round x t hI hx).run σ hat).mono ?_
 rintro e σ' s' ⟨L',hat',⟨q⟩⟩
 cases e with
 | normal =>
   obtain ⟨y,t',hy,hlt,hsub,rfl,hy2⟩:=q
   exact ⟨M y,hlt,y,t',rfl,hy,hsub.at hat',rfl,hy2⟩
 | _=>exact ⟨L',hat',q⟩
variable {α : Type} {M : α → Nat} {LI : α → Kn} {HI : α → List BE} {I : α → Prop} {x : α} {Q:Exit→Kn→S→Prop}
theorem kW.of (y : α) (hL:qz (LI y) L) (hh:Hold s s.next H) (hS:zK H (HI y)) (hI:I y) (hM:M y<M x):kW M LI HI I x Q .normal L (s.ext []):=⟨⟨y,s,hI,hM,hL,rfl,hh.sel hS⟩⟩
theorem Gd (h:Q .ret L s):kW M LI HI I x Q .ret L s:=⟨h⟩
theorem ko {i:Nat} (h:Q (.exit i) L s):kW M LI HI I x Q (.exit i) L s:=⟨h⟩
end
end Go.Proofs.YtolhegocbkckdaaGreat
