/-
 Pairs of parentheses, plainly: the stack's way and the scan's way are one. Own work; no condition.
-/
import Derived.Test.YtikghanejpigjaaMg18
namespace Go.Proofs.Ytikghanejpigjaa
open Go
set_option linter.unusedSimpArgs false
set_option linter.unusedVariables false
def isSign (t:Token) (c:UInt8):Bool:=decide (t.kind=5)&&decide (t.text=[c])
theorem not_both {t:Token} (h:isSign t 40=true):isSign t 41=false:=by
 simp only [isSign,Bool.and_eq_true,decide_eq_true_eq] at h
 simp only [isSign,h.2]
 simp
theorem not_both' {t:Token} (h:isSign t 41=true):isSign t 40=false:=by
 simp only [isSign,Bool.and_eq_true,decide_eq_true_eq] at h
 simp only [isSign,h.2]
 simp
def scanP:Nat→Nat→List Token→Option Nat
 | _,_,[]=>none
 | d,i,t::ts=>if isSign t 40=true then scanP (d+1) (i+1) ts else if isSign t 41=true then (if d=1 then some i else scanP (d - 1) (i+1) ts) else scanP d (i+1) ts
def keyTok (t:Token):Bool:=decide (t.kind=1)&&(decide (t.text=[73,78]) || decide (t.text=[69,88,73,83,84,83]))
def keyAt (l:List Token):Nat→Bool
 | 0=>false
 | q+1=>(l[q]?.map keyTok).getD false
def openP (l:List Token) (p:Nat):Bool:=(l[p]?.map fun t=>isSign t 40).getD false
def shutP (l:List Token) (p:Nat):Option Nat:=scanP 1 (p+1) (l.drop (p+1))
def pairAt (l:List Token) (p:Nat):Option (Int × Int):=if openP l p=true∧keyAt l p=false then (shutP l p).map fun j:Nat=>((p:Int),(j:Int)) else none
def pairs (l:List Token):List (Int × Int):=(List.range l.length).filterMap (pairAt l)
structure InvP (l:List Token) (i:Nat) (st:List Nat) (outs:List (Int × Int)):Prop where
 op:∀ p∈st,openP l p=true∧p<i
 sh:∀ (m:Nat) (p:Nat),st[m]?=some p→shutP l p=scanP (st.length - m) i (l.drop i)
 pm:(outs++st.filterMap (pairAt l)).Perm ((List.range i).filterMap (pairAt l))
theorem InvP.start (l:List Token):InvP l 0 [] []:=⟨fun p h=>(by cases h),fun m p h=>(by simp at h),.refl _⟩
theorem drop_at {l:List Token} {i:Nat} (h:i<l.length):l.drop i=l[i]::l.drop (i+1):=List.drop_eq_getElem_cons h
theorem openP_at {l:List Token} {i:Nat} (h:i<l.length):openP l i=isSign l[i] 40:=by simp [openP,h]
theorem range_fm (l:List Token) (i:Nat):(List.range (i+1)).filterMap (pairAt l)=(List.range i).filterMap (pairAt l)++(pairAt l i).toList:=by
 rw [List.range_succ,List.filterMap_append]
 congr 1
theorem InvP.push {l:List Token} {i:Nat} {st:List Nat} {outs:List (Int × Int)} (h:InvP l i st outs) (hi:i<l.length) (ho:isSign l[i] 40=true):InvP l (i+1) (st++[i]) outs:=by
 refine ⟨fun p hp=>?_,fun m p hm=>?_,?_⟩
 · rcases List.mem_append.1 hp with hp | hp
   · have:=h.op p hp;exact ⟨this.1,by omega⟩
   · rw [List.mem_singleton] at hp
     subst hp
     exact ⟨by rw [openP_at hi];exact ho,by omega⟩
 · rw [List.length_append, List.length_singleton]
   rcases Nat.lt_or_ge m st.length with hlt | hge
   · rw [List.getElem?_append_left hlt] at hm
     rw [h.sh m p hm,drop_at hi]
     show (if isSign l[i] 40=true then _ else _)=_
     rw [if_pos ho,show st.length - m+1=st.length+1 - m by omega]
   · rw [List.getElem?_append_right hge] at hm
     have hm0:m - st.length=0:=by
       have:=(List.getElem?_eq_some_iff.1 hm).1
       simp at this;omega
     rw [hm0] at hm
     simp at hm
     subst hm
     rw [show st.length+1 - m=1 by omega]
     rfl
 · rw [range_fm, List.filterMap_append]
   have e:[i].filterMap (pairAt l)=(pairAt l i).toList:=by cases hq:pairAt l i <;> simp [hq]
   rw [e, ← List.append_assoc]
   exact h.pm.append_right _
theorem pairAt_none {l:List Token} {i:Nat} (hi:i<l.length) (ho:isSign l[i] 40=false):pairAt l i=none:=by
 unfold pairAt
 rw [if_neg]
 rw [openP_at hi,ho]
 simp
theorem InvP.skip {l:List Token} {i:Nat} {st:List Nat} {outs:List (Int × Int)} (h:InvP l i st outs) (hi:i<l.length) (ho:isSign l[i] 40=false) (hc:isSign l[i] 41=false):InvP l (i+1) st outs:=by
 refine ⟨fun p hp=>?_,fun m p hm=>?_,?_⟩
 · have:=h.op p hp;exact ⟨this.1,by omega⟩
 · rw [h.sh m p hm, drop_at hi]
   show (if isSign l[i] 40=true then _ else if isSign l[i] 41=true then _ else _)=_
   rw [ho,hc]
   rfl
 · rw [range_fm, pairAt_none hi ho]
   simpa using h.pm
theorem InvP.pop0 {l:List Token} {i:Nat} {outs:List (Int × Int)} (h:InvP l i [] outs) (hi:i<l.length) (hc:isSign l[i] 41=true):InvP l (i+1) [] outs:=by
 refine ⟨fun p hp=>(by cases hp),fun m p hm=>(by simp at hm),?_⟩
 rw [range_fm,pairAt_none hi (not_both' hc)]
 simpa using h.pm
theorem InvP.pop {l:List Token} {i a:Nat} {st:List Nat} {outs:List (Int × Int)} (h:InvP l i (st++[a]) outs) (hi:i<l.length) (hc:isSign l[i] 41=true):InvP l (i+1) st (if keyAt l a=true then outs else outs++[((a:Int),(i:Int))]):=by
 have ho:=not_both' hc
 have hsh:shutP l a=some i:=by
   rw [h.sh st.length a (by simp),drop_at hi]
   show (if isSign l[i] 40=true then _ else if isSign l[i] 41=true then _ else _)=_
   rw [ho,hc]
   simp
 refine ⟨fun p hp=>?_,fun m p hm=>?_,?_⟩
 · have:=h.op p (by simp [hp]);exact ⟨this.1,by omega⟩
 · have hlt := (List.getElem?_eq_some_iff.1 hm).1
   rw [h.sh m p (by rw [List.getElem?_append_left hlt];exact hm),drop_at hi,List.length_append,List.length_singleton]
   show (if isSign l[i] 40=true then _ else if isSign l[i] 41=true then _ else _)=_
   rw [ho,hc]
   simp only [Bool.false_eq_true,if_false,if_true]
   rw [if_neg (by omega),show st.length+1 - m - 1=st.length - m by omega]
 · rw [range_fm, pairAt_none hi ho]
   simp only [Option.toList_none,List.append_nil]
   refine List.Perm.trans ?_ h.pm
   have ha:=(h.op a (by simp)).1
   have e:[a].filterMap (pairAt l)=if keyAt l a=true then [] else [((a:Int),(i:Int))]:=by
     by_cases hk:keyAt l a=true
     · simp [pairAt,ha,hk]
     · simp only [Bool.not_eq_true] at hk
       simp [pairAt,ha,hk,hsh]
   rw [List.filterMap_append,e]
   by_cases hk:keyAt l a=true
   · simp [hk]
   · simp only [Bool.not_eq_true] at hk
     simp only [hk,Bool.false_eq_true,if_false,List.append_assoc]
     exact (List.perm_append_comm).append_left outs
theorem InvP.fin {l:List Token} {st:List Nat} {outs:List (Int × Int)} (h:InvP l l.length st outs):outs.Perm (pairs l):=by
 have e:st.filterMap (pairAt l)=[]:=by
   rw [List.filterMap_eq_nil_iff]
   intro p hp
   obtain ⟨m,hm,e⟩:=List.mem_iff_getElem.1 hp
   have:=h.sh m p (by rw [List.getElem?_eq_getElem hm,e])
   rw [List.drop_length] at this
   unfold pairAt
   rw [this]
   split <;> rfl
 have:=h.pm
 rw [e,List.append_nil] at this
 exact this
theorem pairAt_fst {l:List Token} {p:Nat} {x:Int × Int} (h:pairAt l p=some x):x.1=p:=by
 unfold pairAt at h
 split at h
 · obtain ⟨j,_,rfl⟩:=Option.map_eq_some_iff.1 h;rfl
 · cases h
theorem pairs_sorted (l:List Token):(pairs l).Pairwise (fun a b=>a.1<b.1):=by
 unfold pairs
 rw [List.pairwise_filterMap]
 refine List.pairwise_lt_range.imp fun {a b} hab x hx y hy=>?_
 rw [pairAt_fst hx,pairAt_fst hy];omega
theorem pairs_unique {l:List Token} {ys outs:List (Int × Int)} (h:outs.Perm (pairs l)) (hy:ys.Perm outs) (hs:ys.Pairwise (fun a b=>a.1≤b.1)):ys=pairs l:=by
 have hp:=hy.trans h
 refine List.Perm.eq_of_pairwise (le:=fun a b=>a.1≤b.1) (fun a b ha hb h1 h2=>?_) hs ((pairs_sorted l).imp fun {a b} h=>by omega) hp
 have hab:a.1=b.1:=by omega
 have ha':a∈pairs l:=hp.mem_iff.1 ha
 by_cases e:a=b
 · exact e
 · obtain ⟨i, hi, ei⟩ := List.mem_iff_getElem.1 ha'
   obtain ⟨j,hj,ej⟩:=List.mem_iff_getElem.1 hb
   have hps:=List.pairwise_iff_getElem.1 (pairs_sorted l)
   rcases Nat.lt_trichotomy i j with q | q | q
   · have:=hps i j hi hj q;rw [ei,ej] at this;omega
   · subst q;exact absurd (ei.symm.trans ej) e
   · have:=hps j i hj hi q;rw [ei,ej] at this;omega
theorem pairs_len (l:List Token):(pairs l).length≤l.length:=by
 unfold pairs
 exact Nat.le_trans (List.length_filterMap_le _ _) (by simp)
end Go.Proofs.Ytikghanejpigjaa
