/-
 The shapes without a query are read back. Own work; no condition.
-/
import Derived.Test.YtikghanejpigjaaMg33
namespace Go.Proofs.Ytikghanejpigjaa
open Go
set_option linter.unusedSimpArgs false
set_option linter.unusedVariables false
theorem DD.at3 {e:EE} (h:DD e) {r:List Token} (hr:NC 4 r):pE 3 (wt 3 e++r)=some (e,r):=h.fin 3 (by omega) r hr
theorem DD.at8 {e:EE} (h:DD e) {r:List Token} (hr:NC 9 r):pE 8 (wt 8 e++r)=some (e,r):=h.fin 8 (by omega) r hr
theorem DD.at5 {e:EE} (h:DD e) {r:List Token} (hr:NC 5 r):pE 5 (wt 5 e++r)=some (e,r):=h.stop 5 (by omega) r hr
theorem DD.at4 {e:EE} (h:DD e) {x:Token} {r:List Token} (hx:cont x=4):pE 4 (wt 5 e++x::r)=pT e (x::r):=by
 rw [pE.eq_def,if_neg (by decide),if_pos rfl,h.at5 (r:=x::r) (show cont x<5 by omega)]
 rfl
theorem lit_no {v:Val} (h:litOk v=true):litT v≠sgn 40∧litT v≠keyT 19∧(litT v).kind≠2:=by
 have a:=litOk_LV h
 cases a <;> refine ⟨?_,?_,?_⟩ <;> simp [litT,keyT,keyL,sgn]
theorem dd_lit {v:Val} (h:litOk v=true) (hf:FT (lvl (eLit v).kind (eLit v).op) ((eLit v).tk false)):DD (eLit v):=by
 refine ⟨9,rfl,by omega,by omega,hf,fun r hr=>?_⟩
 obtain ⟨h1,h2,h3⟩:=lit_no h
 rw [tk_lit,pE_nine,pP.eq_def]
 simp only [List.singleton_append,if_neg h1,if_neg h2,if_neg h3,litOf_lit h]
 rfl
theorem name_no (s:List UInt8):nameT s≠sgn 40∧nameT s≠keyT 19∧(nameT s).kind=2:=by
 refine ⟨?_,?_,rfl⟩ <;> simp [nameT,keyT,sgn]
theorem dd_col (q n:List UInt8) (hf:FT (lvl (eCol q n).kind (eCol q n).op) ((eCol q n).tk false)):DD (eCol q n):=by
 refine ⟨9,rfl,by omega,by omega,hf,fun r hr=>?_⟩
 rw [tk_col,pE_nine,pP.eq_def]
 unfold qualT
 by_cases hq:q=[]
 · subst hq
   obtain ⟨h1,h2,h3⟩:=name_no n
   simp only [if_pos,List.nil_append,List.singleton_append,if_neg h1,if_neg h2,h3]
   match r,hr with
   | [],_=>rfl
   | [x],_=>rfl
   | y::z::s,hr =>
     have hy:y≠sgn 46:=fun e=>by
       have:cont y<10:=hr
       rw [e,cont_keys.2.2.2.2.1] at this
       omega
     simp only [if_neg hy]
     rfl
 · obtain ⟨h1, h2, h3⟩ := name_no q
   simp only [if_neg hq,List.cons_append,List.nil_append,if_neg h1,if_neg h2,h3,if_pos]
   rfl
theorem hdIs_self (x:Token) (r:List Token):hdIs x (x::r)=true:=by simp [hdIs]
theorem hdIs_cons {x y:Token} {r:List Token} (h:y≠x):hdIs x (y::r)=false:=by simp [hdIs,h]
theorem dd_no {k:EE} (hk:DD k) (hf:FT (lvl (eN 3 15 false [k] []).kind (eN 3 15 false [k] []).op) ((eN 3 15 false [k] []).tk false)):DD (eN 3 15 false [k] []):=by
 refine ⟨3,rfl,by omega,by omega,hf,fun r hr=>?_⟩
 rw [tk_no,pE.eq_def,if_pos rfl,List.cons_append,hdIs_self,if_pos rfl,List.tail_cons,hk.at3 hr]
 rfl
theorem dd_neg {k:EE} (hk:DD k) (hf:FT (lvl (eN 3 16 false [k] []).kind (eN 3 16 false [k] []).op) ((eN 3 16 false [k] []).tk false)):DD (eN 3 16 false [k] []):=by
 refine ⟨8,rfl,by omega,by omega,hf,fun r hr=>?_⟩
 rw [tk_neg,pE.eq_def,if_neg (by decide),if_neg (by decide),if_pos rfl,List.cons_append,hdIs_self,if_pos rfl,List.tail_cons,hk.at8 hr]
 rfl
theorem dd_bin {op:Int} {a b:EE} (ho:1≤op∧op≤14) (ha:DD a) (hb:DD b) (hf:FT (lvl (eN 4 op false [a,b] []).kind (eN 4 op false [a,b] []).op) ((eN 4 op false [a,b] []).tk false)):DD (eN 4 op false [a,b] []):=by
 obtain ⟨f1,f2,f3,f4⟩:=ops_facts op (op_cases ho)
 obtain ⟨_,_,l3⟩:=lvl_bin ho
 obtain ⟨L,hL⟩:∃ L:Nat,lvl 4 op=(L:Int):=⟨(lvl 4 op).toNat,by omega⟩
 rw [hL] at f1 f2 f3 f4 l3
 rw [Int.toNat_natCast] at f1 f2
 refine ⟨L,hL,by omega,by omega,by rw [← hL];exact hf,fun r hr=>?_⟩
 rw [tk_bin ho,List.append_assoc,List.cons_append]
 by_cases h4:L=4
 · subst h4
   have e1:ndL op=5:=by unfold ndL;rw [hL];rfl
   have e2:ndR op=5:=by unfold ndR;rw [hL];rfl
   rw [e1,e2,ha.at4 f2,pT.eq_def]
   simp only [f1,hb.at5 hr]
   rfl
 · have e1 : ndL op = (L : Int) := by unfold ndL; rw [hL, if_neg (by omega)]
   have e2:ndR op=((L+1:Nat):Int):=by unfold ndR;rw [hL,if_neg (by omega)];rfl
   have hc:clm L:=⟨by omega,h4,by omega,by omega⟩
   rw [e1,e2,ha.fin L (by omega) (opT op::_) (show cont (opT op)<L+1 by omega)]
   unfold fin'
   rw [if_pos hc,if_pos hc,pM.eq_def]
   simp only [f1,hb.stop (L+1) (by omega) r hr]
   rfl
theorem op4_no:opOf 4 (keyT 15)=none∧opOf 4 (keyT 16)=none∧opOf 4 (keyT 17)=none∧opOf 4 (keyT 18)=none:=by decide +kernel
theorem pT_is (a:EE) (r:List Token):pT a (keyT 16::r)=(if hdIs (keyT 15) r then some (eN 5 0 true [a] [],r.tail.tail) else some (eN 5 0 false [a] [],r.tail)):=by
 rw [pT.eq_def]
 simp only [op4_no.2.1,if_pos]
theorem pT_not (a:EE) (r:List Token):pT a (keyT 15::r)=pU a true r:=by
 rw [pT.eq_def]
 simp only [op4_no.1,if_neg (show keyT 15≠keyT 16 by decide),if_pos]
theorem pT_in (a:EE) (r:List Token):pT a (keyT 17::r)=pU a false (keyT 17::r):=by
 rw [pT.eq_def]
 simp only [op4_no.2.2.1,if_neg (show keyT 17≠keyT 16 by decide),if_neg (show keyT 17≠keyT 15 by decide),if_pos (show keyT 17=keyT 17∨keyT 17=keyT 18 from .inl rfl),true_or,if_true]
theorem pT_btw (a:EE) (r:List Token):pT a (keyT 18::r)=pU a false (keyT 18::r):=by
 rw [pT.eq_def]
 simp only [op4_no.2.2.2,if_neg (show keyT 18≠keyT 16 by decide),if_neg (show keyT 18≠keyT 15 by decide),if_pos (show keyT 18=keyT 17∨keyT 18=keyT 18 from .inr rfl),or_true,if_true]
theorem cont4:cont (keyT 15)=4∧cont (keyT 16)=4∧cont (keyT 17)=4∧cont (keyT 18)=4:=⟨cont_keys.1,cont_keys.2.1,cont_keys.2.2.1,cont_keys.2.2.2.1⟩
theorem dd_is {nt:Bool} {a:EE} (ha:DD a) (hf:FT (lvl (eN 5 0 nt [a] []).kind (eN 5 0 nt [a] []).op) ((eN 5 0 nt [a] []).tk false)):DD (eN 5 0 nt [a] []):=by
 refine ⟨4,rfl,by omega,by omega,hf,fun r hr=>?_⟩
 rw [tk_is,List.append_assoc,List.cons_append,ha.at4 cont4.2.1,pT_is]
 cases nt
 · simp only [notT, Bool.false_eq_true, if_false, List.nil_append, List.cons_append]
   simp only [hdIs_cons (show keyT 20≠keyT 15 by decide),Bool.false_eq_true,if_false]
   rfl
 · simp only [notT, if_true, List.cons_append, List.nil_append, hdIs_self]
   rfl
theorem pT_nt {a:EE} (nt:Bool) {x:Token} (hx:x=keyT 17∨x=keyT 18) (r:List Token):pT a (notT nt++x::r)=pU a nt (x::r):=by
 cases nt
 · rcases hx with rfl | rfl
   · exact pT_in a r
   · exact pT_btw a r
 · exact pT_not a _
theorem DD.nt4 {e:EE} (h:DD e) (nt:Bool) {x:Token} (hx:x=keyT 17∨x=keyT 18) (r:List Token):pE 4 (wt 5 e++(notT nt++x::r))=pU e nt (x::r):=by
 rw [← pT_nt nt hx]
 cases nt
 · refine h.at4 ?_
   rcases hx with rfl | rfl
   · exact cont4.2.2.1
   · exact cont4.2.2.2
 · exact h.at4 cont4.1
theorem dd_btw {nt:Bool} {a b c:EE} (ha:DD a) (hb:DD b) (hc:DD c) (hf:FT (lvl (eN 6 0 nt [a,b,c] []).kind (eN 6 0 nt [a,b,c] []).op) ((eN 6 0 nt [a,b,c] []).tk false)):DD (eN 6 0 nt [a,b,c] []):=by
 refine ⟨4,rfl,by omega,by omega,hf,fun r hr=>?_⟩
 simp only [tk_btw,List.append_assoc,List.cons_append]
 rw [ha.nt4 nt (.inr rfl),pU.eq_def,hdIs_self,if_pos rfl,List.tail_cons,hb.at5 (r:=keyT 13::_) (show cont (keyT 13)<5 by decide +kernel)]
 simp only [Option.bind_eq_bind,Option.bind_some,List.tail_cons,hc.at5 hr]
 rfl
theorem getD_ltJ {α : Type} {l:List α} {n:Nat} {d : α} (h:n<l.length):l.getD n d=l[n]:=by simp [List.getD,h]
theorem getD_ge {α : Type} {l:List α} {n:Nat} {d : α} (h:l.length≤n):l.getD n d=d:=by simp [List.getD,h]
def joinC:List (List Token)→List Token
 | []=>[]
 | [x]=>x
 | x::y::l=>x++sgn 44::joinC (y::l)
theorem joinC_snoc (l:List (List Token)) (x:List Token):joinC (l++[x])=joinC l++((if 0<l.length then [sgn 44] else [])++x):=by
 induction l with
 | nil=>rfl
 | cons a l ih =>
   cases l with
   | nil=>rfl
   | cons b l =>
     show a++sgn 44::joinC ((b::l)++[x])=_
     rw [ih]
     simp [joinC]
theorem sepC_takeJ (l:List (List Token)) (n:Nat) (h:n≤l.length):sepC l n=joinC (l.take n):=by
 induction n with
 | zero=>rfl
 | succ n ih =>
   rw [List.take_succ_eq_append_getElem (by omega),joinC_snoc,sepC,ih (by omega),List.length_take,Nat.min_eq_left (by omega),getD_ltJ (by omega)]
theorem sepC_all (l:List (List Token)):sepC l l.length=joinC l:=by rw [sepC_takeJ _ _ (Nat.le_refl _),List.take_length]
theorem inT_join (a:EE) (l:List EE):inT false 7 0 (ktL (a::l))=joinC (l.map (wt 1)):=by
 have hl:(ktL (a::l)).length=l.length+1:=by simp [ktL]
 unfold inT
 rw [hl,Nat.add_sub_cancel]
 have:(List.range l.length).map (fun j=>kidT false 7 0 (ktL (a::l)) (j+1))=l.map (wt 1):=by
   refine List.ext_getElem (by simp) fun j h1 h2=>?_
   simp only [List.length_map] at h2
   simp only [List.getElem_map,List.getElem_range]
   unfold kidT
   rw [hl]
   have hn:need 7 0 (l.length+1) ((j+1:Nat):Int)=1:=by
     unfold need
     rw [if_neg (by simp [lvl];omega),if_neg (by decide),if_neg (by decide),if_pos ⟨rfl,by omega⟩]
   rw [hn]
   unfold wt ktL
   simp [h2]
 rw [this]
 have:=sepC_all (l.map (wt 1))
 rwa [List.length_map] at this
theorem pL_join (l:List EE):l≠[]→(∀ k∈l,DD k)→∀ r,hdIs (sgn 44) r=false→NC 1 r→pL (joinC (l.map (wt 1))++r)=some (l,r):=by
 induction l with
 | nil=>exact fun h=>(h rfl).elim
 | cons a l ih =>
   intro _ hd r h1 h2
   have ha:=hd a (.head _)
   cases l with
   | nil =>
     show pL (wt 1 a++r)=_
     rw [pL.eq_def,ha.wt1,ha.one r h2]
     simp only [Option.bind_eq_bind,Option.bind_some,h1,Bool.false_eq_true,if_false]
   | cons b l =>
     show pL ((wt 1 a++sgn 44::joinC ((b::l).map (wt 1)))++r)=_
     rw [List.append_assoc,List.cons_append,pL.eq_def,ha.wt1,ha.one (sgn 44::_) (show cont (sgn 44)<1 by decide +kernel)]
     simp only [Option.bind_eq_bind,Option.bind_some,hdIs_self,if_true,List.tail_cons,ih (by simp) (fun k hk=>hd k (.tail _ hk)) r h1 h2]
theorem joinC_FT {l:List EE} {r:List Token} (h:l≠[]) (hd:∀ k∈l,DD k):∃ x s,joinC (l.map (wt 1))++r=x::s∧fT 1 x:=by
 match l,h with
 | a::l,_ =>
   obtain ⟨L,h1,h2,h3,h4,_⟩:=hd a (.head _)
   have hw:wt 1 a=a.tk false:=(hd a (.head _)).wt1
   obtain ⟨x,s,hx,hf⟩:=h4.mono (n:=1) (by omega)
   cases l with
   | nil=>exact ⟨x,s++r,by show wt 1 a++r=_;rw [hw,hx];rfl,hf⟩
   | cons b l=>exact ⟨x,s++(sgn 44::joinC ((b::l).map (wt 1))++r),by show (wt 1 a++sgn 44::joinC ((b::l).map (wt 1)))++r=_;rw [hw,hx];simp,hf⟩
theorem dd_inl {nt:Bool} {a b:EE} {l:List EE} (ha:DD a) (hl:∀ k∈b::l,DD k) (hf:FT (lvl (eN 7 0 nt (a::b::l) []).kind (eN 7 0 nt (a::b::l) []).op) ((eN 7 0 nt (a::b::l) []).tk false)):DD (eN 7 0 nt (a::b::l) []):=by
 refine ⟨4,rfl,by omega,by omega,hf,fun r hr=>?_⟩
 rw [tk_inl,inT_join]
 simp only [List.append_assoc,List.cons_append,List.nil_append]
 obtain ⟨x,s,hx,hfx⟩:=joinC_FT (l:=b::l) (r:=sgn 41::r) (by simp) hl
 rw [ha.nt4 nt (.inl rfl),pU.eq_def,hdIs_cons (by decide)]
 simp only [Bool.false_eq_true,if_false,List.tail_cons]
 have h1:hdIs (keyT 1) (joinC ((b::l).map (wt 1))++sgn 41::r)=false:=by rw [hx];exact hdIs_cons hfx.1
 have h2:=pL_join (b::l) (by simp) hl (sgn 41::r) (hdIs_cons (by decide)) (show cont (sgn 41)<1 by decide +kernel)
 simp only [h1,h2,Bool.false_eq_true,if_false,Option.bind_eq_bind,Option.bind_some,List.tail_cons]
 rfl
end Go.Proofs.Ytikghanejpigjaa
