/-
  Pairs of parentheses, plainly: nested or one behind the other.
  Pairs of parentheses, plainly: without one there are two tokens less.
  Own work; no condition.
-/
import Derived.Test.YtikghanejpigjaaDPairP
import Derived.Test.YtikghanejpigjaaMg28
namespace Go.Proofs.Ytikghanejpigjaa
open Go
set_option linter.unusedSimpArgs false
set_option linter.unusedVariables false
theorem scanP_low:∀ (ts:List Token) (d i j:Nat),scanP d i ts=some j→i≤j
 | [],d,i,j,h=>by simp [scanP] at h
 | t::ts,d,i,j,h=>by
   unfold scanP at h
   split at h
   · have:=scanP_low ts _ _ _ h;omega
   · split at h
     · split at h
       · cases h;exact Nat.le_refl _
       · have:=scanP_low ts _ _ _ h;omega
     · have:=scanP_low ts _ _ _ h;omega
theorem scanP_less:∀ (ts:List Token) (d i j:Nat),1≤d→scanP (d+1) i ts=some j→∃ m,scanP d i ts=some m∧m<j
 | [],d,i,j,_,h=>by simp [scanP] at h
 | t::ts,d,i,j,hd,h=>by
   unfold scanP at h ⊢
   by_cases ho:isSign t 40=true
   · rw [if_pos ho] at h ⊢
     exact scanP_less ts (d+1) (i+1) j (by omega) h
   · rw [if_neg ho] at h ⊢
     by_cases hs:isSign t 41=true
     · rw [if_pos hs] at h ⊢
       rw [if_neg (by omega)] at h
       rw [Nat.add_sub_cancel] at h
       by_cases h1:d=1
       · rw [if_pos h1]
         have:=scanP_low ts _ _ _ h
         exact ⟨i,rfl,by omega⟩
       · rw [if_neg h1]
         refine scanP_less ts (d - 1) (i+1) j (by omega) ?_
         rw [Nat.sub_add_cancel hd];exact h
     · rw [if_neg hs] at h ⊢
       exact scanP_less ts d (i+1) j hd h
theorem scanP_one {ts:List Token}:∀ (d i j:Nat),scanP (d+2) i ts=some j→∃ m,scanP 1 i ts=some m∧m<j
 | 0,i,j,h=>scanP_less ts 1 i j (Nat.le_refl _) h
 | d+1,i,j,h=>by
   obtain ⟨m,h1,h2⟩:=scanP_less ts (d+2) i j (by omega) h
   obtain ⟨m',h3,h4⟩:=scanP_one d i m h1
   exact ⟨m',h3,by omega⟩
theorem scanP_at:∀ (ts:List Token) (d i j k:Nat),1≤d→scanP d i ts=some j→i+k<j→∃ d',1≤d'∧scanP d' (i+k) (ts.drop k)=some j
 | ts,d,i,j,0,hd,h,_=>⟨d,hd,h⟩
 | [],d,i,j,k+1,_,h,_=>by simp [scanP] at h
 | t::ts,d,i,j,k+1,hd,h,hk=>by
   have hi:i+(k+1)=(i+1)+k:=by omega
   rw [hi,List.drop_succ_cons]
   unfold scanP at h
   by_cases ho:isSign t 40=true
   · rw [if_pos ho] at h
     exact scanP_at ts (d+1) (i+1) j k (by omega) h (by omega)
   · rw [if_neg ho] at h
     by_cases hs:isSign t 41=true
     · rw [if_pos hs] at h
       by_cases h1:d=1
       · rw [if_pos h1] at h
         cases h
         omega
       · rw [if_neg h1] at h
         exact scanP_at ts (d - 1) (i+1) j k (by omega) h (by omega)
     · rw [if_neg hs] at h
       exact scanP_at ts d (i+1) j k hd h (by omega)
theorem shutP_in {l:List Token} {p q j:Nat} (hp:shutP l p=some j) (hpq:p<q) (hqj:q<j) (hq:openP l q=true):∃ m,shutP l q=some m∧m<j:=by
 unfold shutP at hp
 obtain ⟨d,hd,h⟩:=scanP_at _ 1 (p+1) j (q - (p+1)) (Nat.le_refl _) hp (by omega)
 rw [show p+1+(q - (p+1))=q by omega,List.drop_drop,show p+1+(q - (p+1))=q by omega] at h
 have hlt:q<l.length:=by
   rcases Nat.lt_or_ge q l.length with h1 | h1
   · exact h1
   · rw [List.drop_of_length_le h1] at h
     simp [scanP] at h
 rw [drop_at hlt] at h
 rw [openP_at hlt] at hq
 unfold scanP at h
 rw [if_pos hq] at h
 obtain ⟨e,rfl⟩:∃ e,d=e+1:=⟨d - 1,by omega⟩
 exact scanP_one e (q+1) j h
theorem scanP_end:∀ (ts:List Token) (d i j:Nat),scanP d i ts=some j→∃ t,ts[j - i]?=some t∧isSign t 41=true
 | [],d,i,j,h=>by simp [scanP] at h
 | t::ts,d,i,j,h=>by
   have step:∀ d',scanP d' (i+1) ts=some j→∃ u,(t::ts)[j - i]?=some u∧isSign u 41=true:=fun d' h'=>by
     have:=scanP_low _ _ _ _ h'
     obtain ⟨u,h1,h2⟩:=scanP_end ts d' (i+1) j h'
     refine ⟨u,?_,h2⟩
     rw [show j - i=(j - (i+1))+1 by omega,List.getElem?_cons_succ]
     exact h1
   unfold scanP at h
   split at h
   · exact step _ h
   · split at h
     · rename_i hs
       split at h
       · cases h;exact ⟨t,by simp,hs⟩
       · exact step _ h
     · exact step _ h
theorem pairs_at {l:List Token} {k:Nat} (h:k<(pairs l).length):∃ p j:Nat,(pairs l)[k]=((p:Int),(j:Int))∧p<j∧openP l p=true∧shutP l p=some j∧∃ t,l[j]?=some t∧isSign t 41=true:=by
 have hm:(pairs l)[k]∈pairs l:=List.getElem_mem h
 generalize (pairs l)[k]=x at hm ⊢
 unfold pairs at hm
 obtain ⟨p,hp,hx⟩:=List.mem_filterMap.1 hm
 unfold pairAt at hx
 split at hx
 case isFalse=>cases hx
 rename_i ho
 obtain ⟨j,hj,rfl⟩:=Option.map_eq_some_iff.1 hx
 have h1:scanP 1 (p+1) (l.drop (p+1))=some j:=hj
 have h2:=scanP_low _ _ _ _ h1
 obtain ⟨t,h3,h4⟩:=scanP_end _ _ _ _ h1
 rw [List.getElem?_drop,show p+1+(j - (p+1))=j by omega] at h3
 exact ⟨p,j,rfl,by omega,ho.1,hj,t,h3,h4⟩
theorem pairs_nest {l:List Token} {k i:Nat} (hki:k<i) (hi:i<(pairs l).length):((pairs l)[k]'(by omega)).1<(pairs l)[i].1∧¬ (((pairs l)[k]'(by omega)).2>(pairs l)[i].1∧((pairs l)[k]'(by omega)).2<(pairs l)[i].2):=by
 have hs:=List.pairwise_iff_getElem.1 (pairs_sorted l) k i (by omega) hi hki
 refine ⟨hs,?_⟩
 obtain ⟨p,j,e1,_,_,h3,_⟩:=pairs_at (l:=l) (k:=k) (by omega)
 obtain ⟨q,m,e2,_,h5,h6,_⟩:=pairs_at hi
 rw [e1,e2] at hs ⊢
 dsimp only at hs ⊢
 rintro ⟨a,b⟩
 obtain ⟨m',h7,h8⟩:=shutP_in h3 (show p<q by omega) (show q<j by omega) h5
 rw [h6] at h7
 cases h7
 omega
end Go.Proofs.Ytikghanejpigjaa

namespace Go.Proofs.Ytikghanejpigjaa
open Go
set_option linter.unusedSimpArgs false
set_option linter.unusedVariables false
theorem wP_len {l:List Token} {k:Nat} (h:k<(pairs l).length):(wP l (k:Int)).length+2=l.length:=by
 obtain ⟨a,b,e,hab,hbl⟩:=pairs_bnd h
 rw [wP_in h e, ← cutP_erase hab hbl,List.length_eraseIdx_of_lt (by rw [List.length_eraseIdx_of_lt hbl];omega),List.length_eraseIdx_of_lt hbl]
 omega
theorem wP_end (l:List Token):wP l ((pairs l).length:Int)=l:=wP_out (by omega)
end Go.Proofs.Ytikghanejpigjaa
