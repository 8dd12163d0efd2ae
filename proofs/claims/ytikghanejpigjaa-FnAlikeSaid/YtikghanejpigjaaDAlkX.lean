/-
 A query is read back. Own work; no condition.
-/
import Derived.Test.YtikghanejpigjaaDAlkW
namespace Go.Proofs.Ytikghanejpigjaa
open Go
set_option linter.unusedSimpArgs false
set_option linter.unusedVariables false
def St (ks:List Token):List Token→Prop
 | []=>True
 | x::_=>x∈ks
theorem St.nc {ks:List Token} {r:List Token} (h:St ks r) (hk:∀ x∈ks,cont x=0):NC 1 r:=by
 cases r with
 | nil=>trivial
 | cons x r=>show cont x<1;rw [hk x h];exact Nat.one_pos
theorem St.no {ks:List Token} {r:List Token} {y:Token} (h:St ks r) (hk:y ∉ ks):hdIs y r=false:=by
 cases r with
 | nil=>rfl
 | cons x r=>exact hdIs_cons fun e=>hk (e ▸ h)
theorem St.mono {ks ls:List Token} {r:List Token} (h:St ks r) (hk:∀ x∈ks,x∈ls):St ls r:=by
 cases r with
 | nil=>trivial
 | cons x r=>exact hk x h
theorem pAs_as {r:List Token} {a:List UInt8} (h:hdIs (keyT 12) r=false):pAs (asT a++r)=(a,r):=by
 unfold asT
 by_cases ha:a=[]
 · rw [if_pos ha, ha, List.nil_append]
   match r,h with
   | [],_=>rfl
   | [x],_=>rfl
   | x::y::r,h =>
     have hx:¬ x=keyT 12:=by simpa [hdIs] using h
     show (if x=keyT 12 then _ else _)=_
     rw [if_neg hx]
 · rw [if_neg ha]
   show (if keyT 12=keyT 12 then (a,r) else ([],keyT 12::nameT a::r))=_
   rw [if_pos rfl]
theorem asT_St {ks r:List Token} {a:List UInt8} (h:St ks r):St (keyT 12::ks) (asT a++r):=by
 unfold asT
 split
 · exact h.mono fun x hx => .tail _ hx
 · exact .head _
theorem qst_kind {x:Token} {r:List Token} (h:x.kind≠2):qst (x::r)=false:=by simp [qst,h]
theorem qst_wt {n:Int} {e:EE} (h:∀ r,NC 10 r→qst (e.tk false++r)=false) (r:List Token) (hr:NC 10 r):qst (wt n e++r)=false:=by
 unfold wt wrapT
 split
 · exact qst_kind (by decide)
 · exact h r hr
theorem nt_NC {nt:Bool} {x:Token} {r:List Token} (hx:x=keyT 17∨x=keyT 18):NC 10 (notT nt++x::r):=by
 cases nt
 · show cont x < 10
   rcases hx with rfl | rfl
   · rw [cont4.2.2.1];omega
   · rw [cont4.2.2.2];omega
 · show cont (keyT 15) < 10
   rw [cont4.1];omega
theorem Rg.qst {e:EE} (h:Rg e):∀ r,NC 10 r→qst (e.tk false++r)=false:=by
 induction h with
 | mk e h1 h2 h3 h4 ih1 ih2 =>
 intro r hr
 have hs:=shpB_RS h1
 cases hs with
 | lit v hv=>rw [tk_lit];exact qst_kind (lit_no hv).2.2
 | col q n hq hn =>
   rw [tk_col]
   unfold qualT
   split
   · match r, hr with
     | [],_=>simp [Go.Proofs.Ytikghanejpigjaa.qst,hdIs]
     | y::s,hr =>
       have hy:y≠sgn 46:=fun e=>by
         have:cont y<10:=hr
         rw [e,cont_keys.2.2.2.2.1] at this
         omega
       simp [Go.Proofs.Ytikghanejpigjaa.qst,hdIs,hy]
   · have : nameT n ≠ sgn 42 := by simp [nameT, sgn]
     simp [Go.Proofs.Ytikghanejpigjaa.qst,hdIs,this]
 | no k=>rw [tk_no];exact qst_kind (by decide)
 | neg k=>rw [tk_neg];exact qst_kind (by decide)
 | bin op a b ho =>
   rw [tk_bin ho,List.append_assoc]
   refine qst_wt (ih1 a (.head _)) _ ?_
   show cont (opT op)<10
   obtain ⟨_,f2,f3,f4⟩:=ops_facts op (op_cases ho)
   omega
 | is nt a=>rw [tk_is,List.append_assoc];exact qst_wt (ih1 a (.head _)) _ (show cont (keyT 16)<10 by rw [cont4.2.1];omega)
 | btw nt a b c=>simp only [tk_btw,List.append_assoc,List.cons_append];exact qst_wt (ih1 a (.head _)) _ (nt_NC (.inr rfl))
 | inl nt a b l=>simp only [tk_inl,List.append_assoc,List.cons_append];exact qst_wt (ih1 a (.head _)) _ (nt_NC (.inl rfl))
 | ins nt a q=>simp only [tk_ins,List.append_assoc,List.cons_append];exact qst_wt (ih1 a (.head _)) _ (nt_NC (.inl rfl))
 | ex q=>rw [tk_ex];exact qst_kind (by decide)
def itTk (x:EItem):List Token:=itemT x.star x.qual x.als (x.e.tk false)
theorem pI_one {x:EItem} (hk:itOk x=true) (hx:x.star=false→Rg x.e∧DD x.e) {r:List Token} (hr:St [sgn 44,keyT 3] r):pI (itTk x++r)=some (x,r):=by
 obtain ⟨st,q,e,a⟩:=x
 unfold itOk at hk
 unfold itTk itemT
 rw [pI.eq_def]
 cases st
 · obtain ⟨hg, hd⟩ := hx rfl
   simp only [Bool.false_eq_true,if_false,Bool.and_eq_true,decide_eq_true_eq] at hk
   obtain ⟨rfl, -⟩:=hk
   have hs:=asT_St (a:=a) hr
   have hnc:NC 1 (asT a++r):=hs.nc (by decide +kernel)
   simp only [Bool.false_eq_true,if_false,List.append_assoc]
   obtain ⟨y,s,hy,hf⟩:=hg.FT
   have h1:hdIs (sgn 42) (e.tk false++(asT a++r))=false:=by dsimp only at hy;rw [hy];exact hdIs_cons hf.2.2.1
   rw [h1,hg.qst _ (hnc.mono (by omega))]
   dsimp only at hd
   simp only [Bool.false_eq_true,if_false,hd.one _ hnc,Option.bind_eq_bind,Option.bind_some,pAs_as (a:=a) (hr.no (y:=keyT 12) (by decide))]
 · simp only [if_true, Bool.and_eq_true, decide_eq_true_eq] at hk
   obtain ⟨⟨hq,rfl⟩,he⟩:=hk
   rw [EE.eqB_iff] at he
   subst he
   simp only [if_true]
   unfold qualT
   by_cases hq:q=[]
   · rw [if_pos hq, hq]
     simp only [List.nil_append,List.singleton_append,hdIs_self,if_true,List.tail_cons]
   · rw [if_neg hq]
     have h1:nameT q≠sgn 42:=by simp [nameT,sgn]
     simp only [List.cons_append,List.nil_append,hdIs_cons h1,Bool.false_eq_true,if_false]
     have h2:qst (nameT q::sgn 46::sgn 42::r)=true:=by simp [Go.Proofs.Ytikghanejpigjaa.qst,hdIs,nameT]
     simp only [h2,if_true]
     rfl
theorem pIs_join (l:List EItem):l≠[]→(∀ x∈l,itOk x=true∧(x.star=false→Rg x.e∧DD x.e))→∀ r,St [keyT 3] r→pIs (joinC (l.map itTk)++r)=some (l,r):=by
 induction l with
 | nil=>exact fun h=>(h rfl).elim
 | cons a l ih =>
   intro _ hd r hr
   obtain ⟨ha,hg⟩:=hd a (.head _)
   cases l with
   | nil =>
     show pIs (itTk a++r)=_
     rw [pIs.eq_def,pI_one ha hg (hr.mono (by simp))]
     simp only [Option.bind_eq_bind,Option.bind_some,hr.no (y:=sgn 44) (by decide),Bool.false_eq_true,if_false]
   | cons b l =>
     show pIs ((itTk a++sgn 44::joinC ((b::l).map itTk))++r)=_
     rw [List.append_assoc,List.cons_append,pIs.eq_def,pI_one ha hg (r:=sgn 44::_) (.head _)]
     simp only [Option.bind_eq_bind,Option.bind_some,hdIs_self,if_true,List.tail_cons,ih (by simp) (fun k hk=>hd k (.tail _ hk)) r hr]
def srTk (x:ESrc):List Token:=(if x.on.isEmpty then sgn 44 else keyT 4)::(srcT x.table x.als (x.on.map (EE.tk false))).2
def qEnd:List Token:=[sgn 41,keyT 6,keyT 7,keyT 11]
theorem srTk_St (l:List ESrc) {r:List Token} (hr:St qEnd r):St (sgn 44::keyT 4::qEnd) ((l.map srTk).flatten++r):=by
 cases l with
 | nil=>exact hr.mono fun x hx => .tail _ (.tail _ hx)
 | cons a l =>
   show (if a.on.isEmpty then sgn 44 else keyT 4)∈_
   split
   · exact .head _
   · exact .tail _ (.head _)
theorem pS_join (l:List ESrc):(∀ x∈l,x.on.length≤1∧∀ k∈x.on,DD k)→∀ r,St qEnd r→pS ((l.map srTk).flatten++r)=some (l,r):=by
 induction l with
 | nil =>
   intro _ r hr
   show pS r=_
   rw [pS.eq_def,hr.no (y:=sgn 44) (by decide),hr.no (y:=keyT 4) (by decide)]
   rfl
 | cons a l ih =>
   intro hd r hr
   obtain ⟨h1,h2⟩:=hd a (.head _)
   have ih:=ih (fun k hk=>hd k (.tail _ hk)) r hr
   have hs:=srTk_St l hr
   have hR:((a::l).map srTk).flatten++r=srTk a++((l.map srTk).flatten++r):=by simp
   rw [hR]
   generalize (l.map srTk).flatten++r=R at ih hs
   obtain ⟨t,s,on⟩:=a
   have hno:hdIs (keyT 12) R=false:=hs.no (y:=keyT 12) (by decide)
   cases on with
   | nil =>
     show pS (sgn 44::nameT t::((asT s++[])++R))=_
     rw [List.append_nil,pS.eq_def,hdIs_self]
     simp only [if_true,List.tail_cons,pAs_as (a:=s) hno,ih,Option.bind_eq_bind,Option.bind_some]
     rfl
   | cons k ks =>
     have:ks=[]:=by
       simp only [List.length_cons] at h1
       exact List.eq_nil_of_length_eq_zero (by omega)
     subst this
     show pS (keyT 4::nameT t::((asT s++keyT 5::k.tk false)++R))=_
     rw [List.append_assoc,List.cons_append,pS.eq_def,hdIs_cons (by decide),hdIs_self]
     simp only [Bool.false_eq_true,if_false,if_true,List.tail_cons,pAs_as (a:=s) (hdIs_cons (x:=keyT 12) (y:=keyT 5) (by decide)),(h2 k (.head _)).one R (hs.nc (by decide +kernel)),ih,Option.bind_eq_bind,Option.bind_some]
     rfl
theorem fromT_takeJ (l:List (Bool × List Token)) (h0:(l.getD 0 (false,[])).1=false) (n:Nat) (h:n<l.length):sgn 44::fromT l (n+1)=((l.take (n+1)).map fun x=>(if x.1 then keyT 4 else sgn 44)::x.2).flatten:=by
 induction n with
 | zero =>
   cases l with
   | nil=>simp at h
   | cons a l =>
     have h0:a.1=false:=h0
     simp [fromT,h0]
 | succ n ih =>
   rw [List.take_succ_eq_append_getElem (by omega),List.map_append,List.flatten_append, ← ih (by omega),fromT,if_pos (by omega),getD_ltJ (by omega)]
   simp
theorem from_all (l:List ESrc) (hl:0<l.length) (h0:∀ h:0<l.length,l[0].on=[]):sgn 44::fromT (l.map fun x=>srcT x.table x.als (x.on.map (EE.tk false))) (l.map fun x=>srcT x.table x.als (x.on.map (EE.tk false))).length=(l.map srTk).flatten:=by
 have hlen:(l.map fun x=>srcT x.table x.als (x.on.map (EE.tk false))).length=l.length - 1+1:=by rw [List.length_map];omega
 rw [hlen,fromT_takeJ _ ?_ _ (by rw [hlen];omega),List.take_of_length_le (by omega),List.map_map]
 · congr 2
   funext x
   obtain ⟨t,s,on⟩:=x
   cases on <;> rfl
 · cases l with
   | nil=>rfl
   | cons a l =>
     have:a.on=[]:=h0 hl
     simp [srcT,this]
theorem srA_all {l:List ESrc}:∀ {i:Nat},srA i l=true→∀ x∈l,x.on.length≤1:=by
 induction l with
 | nil=>intro i _ x hx;cases hx
 | cons a l ih =>
   intro i h x hx
   simp only [srA,Bool.and_eq_true] at h
   cases hx with
   | head =>
     have:=h.1
     simp only [srOk,Bool.and_eq_true,decide_eq_true_eq] at this
     omega
   | tail _ hx=>exact ih h.2 x hx
def orTk (x:EE × Bool):List Token:=x.1.tk false++if x.2 then [keyT 10] else []
theorem ordT_takeJ (l:List (List Token × Bool)) (n:Nat) (h:n<l.length):ordT l (n+1)=keyT 7::keyT 8::joinC ((l.take (n+1)).map fun x=>x.1++if x.2 then [keyT 10] else []):=by
 induction n with
 | zero =>
   cases l with
   | nil=>simp at h
   | cons a l=>simp [ordT,joinC]
 | succ n ih =>
   rw [List.take_succ_eq_append_getElem (by omega),List.map_append,List.map_singleton,joinC_snoc,ordT,ih (by omega),if_neg (by omega),getD_ltJ (by omega)]
   have:0<min (n+1) l.length:=by omega
   simp [this]
theorem ord_all (l:List (EE × Bool)) (hl:l≠[]):ordT (l.map fun x=>(x.1.tk false,x.2)) (l.map fun x=>(x.1.tk false,x.2)).length=keyT 7::keyT 8::joinC (l.map orTk):=by
 have hpos:0<l.length:=List.length_pos_iff.2 hl
 have hlen:(l.map fun x=>(x.1.tk false,x.2)).length=l.length - 1+1:=by rw [List.length_map];omega
 rw [hlen,ordT_takeJ _ _ (by rw [hlen];omega),List.take_of_length_le (by omega),List.map_map]
 rfl
theorem pO_join (l:List (EE × Bool)):l≠[]→(∀ x∈l,DD x.1)→∀ r,St [sgn 41,keyT 11] r→pO (joinC (l.map orTk)++r)=some (l,r):=by
 induction l with
 | nil=>exact fun h=>(h rfl).elim
 | cons a l ih =>
   intro _ hd r hr
   have ha:=hd a (.head _)
   obtain ⟨e,d⟩:=a
   have h44:cont (sgn 44)<1:=by decide +kernel
   have h10:cont (keyT 10)<1:=by decide +kernel
   cases l with
   | nil =>
     show pO (orTk (e,d)++r)=_
     unfold orTk
     cases d
     · simp only [Bool.false_eq_true, if_false, List.append_nil]
       rw [pO.eq_def,ha.one r (hr.nc (by decide +kernel))]
       simp only [Option.bind_eq_bind,Option.bind_some,hr.no (y:=keyT 10) (by decide),hr.no (y:=sgn 44) (by decide),Bool.false_eq_true,if_false]
     · simp only [if_true, List.append_assoc, List.cons_append, List.nil_append]
       rw [pO.eq_def,ha.one (keyT 10::r) h10]
       simp only [Option.bind_eq_bind,Option.bind_some,hdIs_self,List.tail_cons,hr.no (y:=sgn 44) (by decide),Bool.false_eq_true,if_false,if_true]
   | cons b l =>
     have ih:=ih (by simp) (fun k hk=>hd k (.tail _ hk)) r hr
     show pO ((orTk (e,d)++sgn 44::joinC ((b::l).map orTk))++r)=_
     unfold orTk at *
     rw [List.append_assoc,List.cons_append]
     generalize joinC _++r=R at ih ⊢
     cases d
     · simp only [Bool.false_eq_true, if_false, List.append_nil]
       rw [pO.eq_def,ha.one (sgn 44::R) h44]
       simp only [Option.bind_eq_bind,Option.bind_some,hdIs_self,hdIs_cons (x:=keyT 10) (y:=sgn 44) (by decide),List.tail_cons,Bool.false_eq_true,if_false,if_true,ih]
     · simp only [if_true, List.append_assoc, List.cons_append, List.nil_append]
       rw [pO.eq_def,ha.one (keyT 10::sgn 44::R) h10]
       simp only [Option.bind_eq_bind,Option.bind_some,hdIs_self,List.tail_cons,if_true,ih]
theorem pLim_lim {n:Int} {r:List Token} (hn : -1≤n) (hr:St [sgn 41] r):pLim (limT n++r)=(n,r):=by
 unfold limT
 by_cases h:0≤n
 · rw [if_pos h]
   show (if keyT 11=keyT 11 then (numOf (Lib.itoa n),r) else (-1,keyT 11::⟨3,Lib.itoa n,0⟩::r))=_
   rw [if_pos rfl,numOf_itoa]
 · rw [if_neg h, show n = -1 by omega]
   match r,hr with
   | [],_=>rfl
   | [x],_=>rfl
   | x::y::r,hr =>
     have hx:x=sgn 41:=by simpa [St] using hr
     show (if x=keyT 11 then _ else _)=_
     rw [if_neg (by rw [hx];decide)]
theorem lim_St {n:Int} {r:List Token} (hr:St [sgn 41] r):St [sgn 41,keyT 11] (limT n++r):=by
 unfold limT
 split
 · exact .tail _ (.head _)
 · exact hr.mono (by simp)
def RQ (q:EQ):Prop:=∀ r,St [sgn 41] r→pQ (EE.tkQ false q++r)=some (q,r)
theorem items_head (l:List EItem) (h:l≠[]) (hx:∀ x∈l,x.star=false→Rg x.e) (r:List Token):hdIs (keyT 2) (joinC (l.map itTk)++r)=false:=by
 have hone:∀ x:EItem,(x.star=false→Rg x.e)→∀ r,hdIs (keyT 2) (itTk x++r)=false:=by
   intro x hx r
   obtain ⟨st,q,e,a⟩:=x
   unfold itTk itemT
   cases st
   · obtain ⟨y, s, hy, hf⟩ := (hx rfl).FT
     dsimp only at hy
     simp only [Bool.false_eq_true,if_false,hy]
     exact hdIs_cons hf.2.1
   · simp only [if_true]
     unfold qualT
     split
     · exact hdIs_cons (by decide)
     · exact hdIs_cons (by simp [nameT,keyT])
 match l,h with
 | a::l,_ =>
   cases l with
   | nil=>exact hone a (hx a (.head _)) r
   | cons b l =>
     show hdIs _ ((itTk a++sgn 44::joinC ((b::l).map itTk))++r)=_
     rw [List.append_assoc]
     exact hone a (hx a (.head _)) _
theorem rq {q:EQ} (h:hdOk q=true∧q.items.all itOk=true∧srA 0 q.src=true) (hg:∀ k∈q.exprs,Rg k) (hd:∀ k∈q.exprs,DD k):RQ q:=by
 intro r hr
 obtain ⟨h1,h2,h3⟩:=h
 obtain ⟨d,is,fs,ws,os,lim⟩:=q
 simp only [hdOk,Bool.and_eq_true,decide_eq_true_eq] at h1
 obtain ⟨⟨⟨⟨a1, -⟩,⟨a2, -⟩⟩,⟨a3, -⟩⟩,a4⟩:=h1
 dsimp only at h2 h3
 have mI:∀ x∈is,x.star=false→x.e∈(⟨d,is,fs,ws,os,lim⟩:EQ).exprs:=fun x hx hs=>by
   simp only [QueryOf.exprs,List.mem_append,List.mem_map,List.mem_filter]
   exact .inl (.inl (.inl ⟨x,⟨hx,by simp [hs]⟩,rfl⟩))
 have mS:∀ x∈fs,∀ k∈x.on,k∈(⟨d,is,fs,ws,os,lim⟩:EQ).exprs:=fun x hx k hk=>by
   simp only [QueryOf.exprs,List.mem_append,List.mem_flatten,List.mem_map]
   exact .inl (.inl (.inr ⟨x.on,⟨x,hx,rfl⟩,hk⟩))
 have mW:∀ k∈ws,k∈(⟨d,is,fs,ws,os,lim⟩:EQ).exprs:=fun k hk=>by
   simp only [QueryOf.exprs,List.mem_append]
   exact .inl (.inr hk)
 have mO:∀ x∈os,x.1∈(⟨d,is,fs,ws,os,lim⟩:EQ).exprs:=fun x hx=>by
   simp only [QueryOf.exprs,List.mem_append,List.mem_map]
   exact .inr ⟨x,hx,rfl⟩
 generalize (⟨d,is,fs,ws,os,lim⟩:EQ).exprs=L at hg hd mI mS mW mO
 have iN:is≠[]:=fun e=>by subst e;simp at a1
 have fN:0<fs.length:=by omega
 have f0:∀ h:0<fs.length,fs[0].on=[]:=fun h=>by
   cases fs with
   | nil=>simp at h
   | cons a l =>
     simp only [srA,srOk,Bool.and_eq_true,Bool.not_eq_true',Bool.and_eq_false_iff,decide_eq_true_eq,decide_eq_false_iff_not] at h3
     have:=h3.1.2.resolve_left (fun h=>h trivial)
     exact List.eq_nil_of_length_eq_zero (by show a.on.length=0;omega)
 have hsA:=srA_all h3
 have hI:=pIs_join is iN (fun x hx=>⟨List.all_eq_true.1 h2 x hx,fun hs=>⟨hg _ (mI x hx hs),hd _ (mI x hx hs)⟩⟩)
 have hS:=pS_join fs (fun x hx=>⟨hsA x hx,fun k hk=>hd k (mS x hx k hk)⟩)
 have hH:=items_head is iN (fun x hx hs=>hg _ (mI x hx hs))
 have eI:(is.map fun x=>itemT x.star x.qual x.als (x.e.tk false))=is.map itTk:=rfl
 have eF:=from_all fs fN f0
 have hL:=pLim_lim a4 hr
 have sL:=lim_St (n:=lim) hr
 rw [EE.tkQ_eq]
 dsimp only
 unfold asmQ
 simp only [List.cons_append,List.append_assoc]
 rw [eI,sepC_all]
 generalize limT lim++r=R4 at hL sL
 -- behind WHERE
 obtain ⟨R3,hR3,sR3,pR3⟩:∃ R3,ordT (os.map fun x=>(x.1.tk false,x.2)) (os.map fun x=>(x.1.tk false,x.2)).length++R4=R3∧St [sgn 41,keyT 7,keyT 11] R3∧(if hdIs (keyT 7) R3 then pO R3.tail.tail else some ([],R3))=some (os,R4):=by
   by_cases ho:os=[]
   · subst ho
     refine ⟨R4,rfl,sL.mono (by simp),?_⟩
     rw [sL.no (y:=keyT 7) (by decide)]
     rfl
   · rw [ord_all os ho]
     refine ⟨_,rfl,.tail _ (.head _),?_⟩
     simp only [List.cons_append,hdIs_self,if_true,List.tail_cons]
     exact pO_join os ho (fun x hx=>hd _ (mO x hx)) R4 sL
 rw [hR3]
 obtain ⟨R2,hR2,sR2,pR2⟩:∃ R2,whereT (ws.map (EE.tk false))++R3=R2∧St qEnd R2∧(if hdIs (keyT 6) R2 then (pE 1 R2.tail >>= fun w=>some ([w.1],w.2)) else some ([],R2))=some (ws,R3):=by
   cases ws with
   | nil =>
     refine ⟨R3,rfl,sR3.mono (by simp [qEnd]),?_⟩
     rw [sR3.no (y:=keyT 6) (by decide)]
     rfl
   | cons w ws =>
     have:ws=[]:=by
       simp only [List.length_cons] at a3
       exact List.eq_nil_of_length_eq_zero (by omega)
     subst this
     refine ⟨keyT 6::(w.tk false++R3),rfl,.tail _ (.head _),?_⟩
     rw [hdIs_self,if_pos rfl,List.tail_cons,(hd w (mW w (.head _))).one R3 (sR3.nc (by decide +kernel))]
     rfl
 rw [hR2]
 have hS:=hS R2 sR2
 rw [← eF] at hS
 rw [List.cons_append] at hS
 generalize fromT _ _++R2=R1 at hS
 have hI:=hI (keyT 3::R1) (.head _)
 have hH:=hH (keyT 3::R1)
 generalize joinC (is.map itTk)++keyT 3::R1=R0 at hI hH
 rw [pQ.eq_def]
 cases d
 · simp only [Bool.false_eq_true, if_false, List.nil_append, List.tail_cons, hH, hI, Option.bind_eq_bind, Option.bind_some, hS]
   simp only [Option.bind_eq_bind] at pR2
   rw [pR2]
   simp only [Option.bind_some,pR3,hL]
 · simp only [if_true, List.cons_append, List.nil_append, List.tail_cons, hdIs_self, hI, Option.bind_eq_bind, Option.bind_some, hS]
   simp only [Option.bind_eq_bind] at pR2
   rw [pR2]
   simp only [Option.bind_some,pR3,hL]
theorem tkQ_head (q:EQ) (r:List Token):∃ s,EE.tkQ false q++r=keyT 1::s:=by
 rw [EE.tkQ_eq]
 exact ⟨_,rfl⟩
theorem dd_ins {nt:Bool} {a:EE} {q:EQ} (ha:DD a) (hq:RQ q) (hf:FT (lvl (eN 8 0 nt [a] [q]).kind (eN 8 0 nt [a] [q]).op) ((eN 8 0 nt [a] [q]).tk false)):DD (eN 8 0 nt [a] [q]):=by
 refine ⟨4,rfl,by omega,by omega,hf,fun r hr=>?_⟩
 rw [tk_ins]
 simp only [List.append_assoc,List.cons_append,List.nil_append]
 obtain ⟨s,hs⟩:=tkQ_head q (sgn 41::r)
 have h1:hdIs (keyT 1) (EE.tkQ false q++sgn 41::r)=true:=by rw [hs];exact hdIs_self _ _
 rw [ha.nt4 nt (.inl rfl),pU.eq_def,hdIs_cons (by decide)]
 simp only [Bool.false_eq_true,if_false,List.tail_cons]
 have h2:=hq (sgn 41::r) (.head _)
 simp only [h1,h2,if_true,Option.bind_eq_bind,Option.bind_some,List.tail_cons]
 rfl
theorem dd_ex {q:EQ} (hq:RQ q) (hf:FT (lvl (eN 9 0 false [] [q]).kind (eN 9 0 false [] [q]).op) ((eN 9 0 false [] [q]).tk false)):DD (eN 9 0 false [] [q]):=by
 refine ⟨9,rfl,by omega,by omega,hf,fun r hr=>?_⟩
 rw [tk_ex,pE_nine,pP.eq_def]
 simp only [List.append_assoc,List.cons_append,List.nil_append,if_neg (show keyT 19≠sgn 40 by decide),if_true,List.tail_cons,hq (sgn 41::r) (.head _),Option.bind_eq_bind,Option.bind_some]
 rfl
theorem Rg.DD {e:EE} (h:Rg e):DD e:=by
 induction h with
 | mk e h1 h2 h3 h4 ih1 ih2 =>
 have hf:=(Rg.mk e h1 h2 h3 h4).FT
 have hs:=shpB_RS h1
 cases hs with
 | lit v hv=>exact dd_lit hv hf
 | col q n hq hn=>exact dd_col q n hf
 | no k=>exact dd_no (ih1 k (.head _)) hf
 | neg k=>exact dd_neg (ih1 k (.head _)) hf
 | bin op a b ho=>exact dd_bin ho (ih1 a (.head _)) (ih1 b (.tail _ (.head _))) hf
 | is nt a=>exact dd_is (ih1 a (.head _)) hf
 | btw nt a b c=>exact dd_btw (ih1 a (.head _)) (ih1 b (.tail _ (.head _))) (ih1 c (.tail _ (.tail _ (.head _)))) hf
 | inl nt a b l=>exact dd_inl (ih1 a (.head _)) (fun k hk=>ih1 k (.tail _ hk)) hf
 | ins nt a q=>exact dd_ins (ih1 a (.head _)) (rq (h3 q (.head _)) (h4 q (.head _)) (ih2 q (.head _))) hf
 | ex q=>exact dd_ex (rq (h3 q (.head _)) (h4 q (.head _)) (ih2 q (.head _))) hf
theorem tk_inj {x y:EE} (hx:Rg x) (hy:Rg y) (h:x.tk false=y.tk false):x=y:=by
 have a:=hx.DD.one [] trivial
 have b:=hy.DD.one [] trivial
 rw [h,b] at a
 cases a
 rfl
end Go.Proofs.Ytikghanejpigjaa
