/-
  The library's deletion of one element from a slice of one's own, at tokens.
  A list without one pair of parentheses: the program's way.
  Own work; no condition.
-/
import Derived.Test.YtikghanejpigjaaVDel2
import Derived.Test.YtikghanejpigjaaMg18
import Derived.Test.YtikghanejpigjaaMg10
import Derived.Test.YtikghanejpigjaaDPairW
namespace Go.Proofs.Ytikghanejpigjaa
open Go
set_option linter.unusedSimpArgs false
set_option linter.unusedVariables false
theorem tok_sz (l:List Token):∀ u∈l.map Token.toV,u.cells.length=3:=fun u hu=>by obtain ⟨p,_,rfl⟩:=List.mem_map.1 hu;rfl
theorem tok_one (l:List Token):(V.flat (l.map Token.toV)).all V.one=true:=by
 induction l with
 | nil=>rfl
 | cons t l ih=>rw [List.map_cons,flat_cons,List.all_append,ih,Bool.and_true];rfl
set_option maxHeartbeats 4000000 in
theorem delete_c (l:List Token) {i:Nat} (hi:i<l.length) {c lv n:Nat} {s:S} {H:List BE} {rest:List V} (hn:l.length=n) (hb:n<4611686018427387904) (hnc:n≤c) (hrl:rest.length=(c - n)*3) (hh:Hold s s.next (.cell lv (V.flat (l.map Token.toV)++rest)::H)) :
   VCalls Try.prog 23 [.slm (.is c) lv 0 n,.int .i64 (i:Int),.int .i64 ((i:Int)+1)] (s.ext []) (fun v t=>∃ (s':S) (rest':List V),t=s'.ext []∧v = .slm (.is c) lv 0 (n - 1)∧rest'.length=(c - (n - 1))*3∧Hold s' s'.next (.cell lv (V.flat ((l.eraseIdx i).map Token.toV)++rest')::H)):=by
 have hus:=tok_sz l
 have hone:=tok_one l
 have hun:(l.map Token.toV).length=n:=by rw [List.length_map,hn]
 have hj:((i:Int)+1)=((i+1:Nat):Int):=by omega
 have hne:¬ (i:Int)=(i:Int)+1:=by omega
 have hin:i+1≤n:=by omega
 have hi1:i≤n:=by omega
 have hi2:i≤i+1:=by omega
 have hc0:0<c:=by omega
 have hn0:0<n:=by omega
 have hjm:(i+1)+(n - (i+1))=n:=by omega
 have hhj:i+(n - (i+1))≤n:=by omega
 have hoo:0<n - (i+1)→(if c=i+1 then 0 else (i+1)*3)=(i+1)*3:=fun h=>by rw [if_neg (by omega)]
 have hk1:i+(n - (i+1))≤n:=by omega
 have hm1:0<n - (i+(n - (i+1))):=by omega
 have htd:(l.map Token.toV).take i++(l.map Token.toV).drop (i+1)=(l.eraseIdx i).map Token.toV:=by rw [List.eraseIdx_eq_take_drop_succ,List.map_append,List.map_take,List.map_drop]
 have hkk:i+(n - (i+1))=n - 1:=by omega
 have hcn:n - (i+(n - (i+1)))≤c - (i+(n - (i+1))):=by omega
 have hpl:(V.flat ((l.map Token.toV).take i++(l.map Token.toV).drop (i+1))).length=(if c=i+(n - (i+1)) then 0 else (i+(n - (i+1)))*3):=by
   rw [htd,flat_uniform (tok_sz _),List.length_map,List.length_eraseIdx_of_lt hi,hn,hkk,if_neg (by omega)]
 replace hh:=hh.ext0
 generalize s.ext []=s at hh ⊢
 refine LCalls.body Try.func23 rfl (by kernel_rfl) ?_
 repeat' first |(refine kApp ?_ ;refine LOps.appI (us:=l.map Token.toV) (j:=i+1) (n:=n) tT_ok 0 rfl rfl rfl rfl rfl rfl rfl rfl hh hun hus hone hrl hnc hc0 hoo hjm hhj ?_ ;intro s rest hr hh) |(refine LOps.clr tT_ok 0 rfl rfl rfl rfl rfl rfl rfl hh hpl (by rw [hr] ;exact Nat.mul_le_mul_right _ hcn) hm1 ?_ ;intro s rest' hr2 hh) |(refine kOps ?_;first |(refine LOps.nil ?_) |(refine LOps.ev tT_ok rfl ?_) |(refine kSlc ?_;first |(refine LOps.ans (AnsL.slc3 (x1:=i) (x2:=i+1) (x3:=n) tT_ok rfl rfl rfl rfl rfl rfl rfl rfl hj rfl hi2 hin hnc hc0) ?_) |(refine LOps.ans (AnsL.slcLH (x1:=i+(n - (i+1))) (x2:=n) tT_ok rfl rfl rfl rfl rfl rfl rfl rfl hk1 hnc hc0) ?_))) |(refine kWL ?_;first |(refine WL.seq ?_) |(refine WL.region (by kernel_rfl) ?_) |(refine WL.drawn (id:=5) [0,1,2,3,4,5,6,7] [6,7] [[],[],[0,1],[],[],[3,4],[0,1,2,3,4,5],[0,1,2,3,4,5,6]] (by kernel_rfl) (by kernel_rfl) ?_) |(refine WL.skip ?_) |(refine WL.ret ?_) |(refine kCond ?_;first |(refine WL.condF' rfl ?_ ?_;(focus (first |(exact decide_eq_false (by assumption))))))) |(refine kDr ?_;first |(refine LDr.nil ?_) |(refine LDr.fl rfl rfl (.ev tT_ok rfl) ?_) |(refine kDSlc rfl ?_;first |(refine LDr.fl rfl rfl (AnsL.slcK (k:=i) tT_ok rfl rfl rfl rfl rfl rfl hi1 hn0) ?_) |(refine LDr.fl rfl rfl (AnsL.slcL2 (x1:=i+1) tT_ok rfl rfl rfl rfl rfl hj hin hnc hc0) ?_)) |(refine LDr.eff rfl rfl rfl ?_)) |(refine lthen_n ?_) |(refine LPost.r1 (r := .tmp 6) (.inl rfl) (Res1.tmp rfl) ?_) |(refine And.intro ?_ ?_) |(exact StsL.nil)
 rw [htd] at hh
 refine ⟨s,rest',rfl,?_,?_,hh⟩
 · rw [hkk]
 · rw [hr2,hr,hkk]
end Go.Proofs.Ytikghanejpigjaa

namespace Go.Proofs.Ytikghanejpigjaa
open Go
set_option linter.unusedSimpArgs false
set_option linter.unusedVariables false
theorem scanP_bnd:∀ (ts:List Token) (d i j:Nat),scanP d i ts=some j→i≤j∧j<i+ts.length
 | [],d,i,j,h=>by simp [scanP] at h
 | t::ts,d,i,j,h=>by
   unfold scanP at h
   rw [List.length_cons]
   split at h
   · have:=scanP_bnd ts _ _ _ h;omega
   · split at h
     · split at h
       · cases h;omega
       · have:=scanP_bnd ts _ _ _ h;omega
     · have:=scanP_bnd ts _ _ _ h;omega
theorem pairs_bnd {l:List Token} {k:Nat} (h:k<(pairs l).length):∃ a b:Nat,(pairs l)[k]=((a:Int),(b:Int))∧a<b∧b<l.length:=by
 have hm:(pairs l)[k]∈pairs l:=List.getElem_mem h
 generalize (pairs l)[k]=x at hm ⊢
 unfold pairs at hm
 obtain ⟨p,hp,hx⟩:=List.mem_filterMap.1 hm
 rw [List.mem_range] at hp
 unfold pairAt at hx
 split at hx
 case isFalse=>cases hx
 obtain ⟨j,hj,rfl⟩:=Option.map_eq_some_iff.1 hx
 have:=scanP_bnd _ _ _ _ hj
 rw [List.length_drop] at this
 exact ⟨p,j,rfl,by omega,by omega⟩
def cutP (l:List Token) (a b:Nat):List Token:=l.take a++(l.take b).drop (a+1)++l.drop (b+1)
theorem cutP_erase {l:List Token} {a b:Nat} (h1:a<b) (h2:b<l.length):(l.eraseIdx b).eraseIdx a=cutP l a b:=by
 rw [List.eraseIdx_eq_take_drop_succ (l:=l) (i:=b),List.eraseIdx_append_of_lt_length (by rw [List.length_take];omega),List.eraseIdx_eq_take_drop_succ,List.take_take,Nat.min_eq_left (by omega)]
 rfl
def wP (l:List Token) (k:Int):List Token:=if 0≤k∧k<((pairs l).length:Int) then (match (pairs l)[k.toNat]? with | some p=>cutP l p.1.toNat p.2.toNat | none=>l) else l
theorem wP_out {l:List Token} {k:Int} (h:¬ (0≤k∧k<((pairs l).length:Int))):wP l k=l:=if_neg h
theorem wP_in {l:List Token} {k a b:Nat} (h:k<(pairs l).length) (e:(pairs l)[k]=((a:Int),(b:Int))):wP l (k:Int)=cutP l a b:=by
 unfold wP
 rw [if_pos (by omega),Int.toNat_natCast,List.getElem?_eq_getElem h,e]
 rfl
theorem consTok (l:List Token) (H:List BE):ConsOL H (l.map Token.toV) (l.map Token.toV) H:=by
 induction l with
 | nil=>exact .nil
 | cons t l ih=>exact .cons (.agg (.cons (.scal rfl) (.cons (.scal rfl) (.cons (.scal rfl) .nil)))) ih
theorem Ow.sc {s:S} {v d:V} {la:List (Bool × Nat)} (h:Ow s v d la) (hd:d.scal=true):v=d:=by
 cases h with
 | scal _=>rfl
 | slm0=>simp [V.scal] at hd
 | slc=>simp [V.scal] at hd
 | agg=>simp [V.scal] at hd
theorem Ow.tok {s:S} {v:V} {t:Token} {la:List (Bool × Nat)} (h:Ow s v t.toV la):v=t.toV:=by
 unfold Token.toV at h ⊢
 cases h with
 | scal _=>rfl
 | agg h =>
   cases h with
   | cons h1 h=>cases h with
     | cons h2 h=>cases h with
       | cons h3 h=>cases h with
         | nil=>rw [h1.sc rfl,h2.sc rfl,h3.sc rfl]
theorem OwL.tok {s:S}:∀ {l:List Token} {us:List V} {la:List (Bool × Nat)},OwL s us (l.map Token.toV) la→us=l.map Token.toV
 | [],us,la,h=>by cases h;rfl
 | t::l,us,la,h=>by
   cases h with
   | cons h1 h2=>rw [h1.tok,OwL.tok h2];rfl
theorem Hold.uncellT {s:S} {b:Nat} {H:List BE} {c lv n:Nat} {l:List Token} (h:Hold s b (.own (.slm (.is c) lv 0 n) (.sl 0 (l.map Token.toV))::H)) (hne:l≠[]):∃ rest:List V,rest.length=(c - n)*3∧n≤c∧n=l.length∧Hold s b (.cell lv (V.flat (l.map Token.toV)++rest)::H):=by
 obtain ⟨ls,h1,h2,h3⟩:=h.ex
 generalize hds:l.map Token.toV=ds at h1
 cases h1 with
 | @cons _ a0 _ b0 k1 k2 =>
   have k1':Ow s (.slm (.is c) lv 0 n) (.sl 0 ds) a0:=k1
   cases k1' with
   | slm0=>cases l with
     | nil=>exact absurd rfl hne
     | cons _ _=>cases hds
   | @slc _ _ _ sz us _ rest la q1 q2 q3 q4 q5 q0 q6 =>
     subst hds
     have e:=q6.tok
     subst e
     have hsz:sz=3:=by
       obtain ⟨t,l',rfl⟩:∃ t l',l=t::l':=List.exists_cons_of_ne_nil hne
       exact (q3 t.toV (by simp)).symm
     subst hsz
     refine ⟨rest,q4,q5,by rw [← q2,List.length_map],⟨[(true,lv)]++b0,.cons ⟨rfl,q1⟩ k2,?_,fun p hp=>h3 p ?_⟩⟩
     · have hp : LeL ([(true, lv)] ++ b0) ((la ++ [(true, lv)]) ++ b0) := ⟨fun h => by rw [List.append_assoc, List.nodup_append] at h; exact h.2.1, fun p hp => by rw [List.append_assoc]; exact List.mem_append_right _ hp⟩
       exact hp.1 h2
     · rw [List.append_assoc];exact List.mem_append_right _ hp
def S.trimT (s:S) (l:Nat) (us:List V):S:={ s with vars:=fun x=>if x=l then some us else s.vars x }
theorem cell_own2 {s:S} {H:List BE} {c lv n:Nat} {rest:List V} {l:List Token} (hn:l.length=n) (h:Hold s s.next (.cell lv (V.flat (l.map Token.toV)++rest)::H)):∃ s':S,VTurn (.slm (.is c) lv 0 n) (s.ext []) (.slm (.is c) lv 0 n) s'∧Own2 (.sl 0 (l.map Token.toV)) (.slm (.is c) lv 0 n) s':=by
 have h0:=h.ext0
 generalize s.ext []=t at h0 ⊢
 have hv:=(h0.wr (cs':=[]) (i:=0) rfl rfl).1
 refine ⟨t.trimT lv (V.flat (l.map Token.toV)),fun E val hr hx=>?_,?_⟩
 · have hr':RelS E (t.trimT lv (V.flat (l.map Token.toV))):=hr.trim (fun x cs hq=>by
     change (if x=lv then some (V.flat (l.map Token.toV)) else t.vars x)=some cs at hq
     split at hq
     · rename_i e;rw [e];cases hq;exact ⟨rest,hv⟩
     · exact ⟨[],by rw [List.append_nil];exact hq⟩) rfl rfl
   refine ⟨E,rfl,⟨.refl E,rfl,rfl,rfl,Nat.le_refl _,fun _ _ _=>rfl,fun k _ tr=>?_,Nat.le_refl _⟩,hr',hx⟩
   rcases tr with ⟨x,a,b⟩ | ⟨id,F,a,b,c⟩
   · refine .inl ⟨x, ?_, b⟩
     change ((if x=lv then some (V.flat (l.map Token.toV)) else t.vars x):Option (List V)).isSome=true at a
     split at a
     · rename_i e;rw [e,hv];rfl
     · exact a
   · exact .inr ⟨id,F,a,b,c⟩
 · cases l with
   | nil =>
     subst hn
     exact ⟨[],.emp',List.nodup_nil⟩
   | cons x l =>
     refine ⟨[]++[(true,lv)],.slm (sz':=3) rfl (by rw [List.length_map,hn]) (tok_sz _) (us:=V.flat ((x::l).map Token.toV)) ?_ (TrL.scal ?_),by simp⟩
     · show (if lv = lv then _ else _) = _
       rw [if_pos rfl]
     · rw [List.all_eq_true]
       intro v hv
       obtain ⟨u,hu,hvu⟩:=List.mem_flatMap.1 hv
       obtain ⟨y,_,rfl⟩:=List.mem_map.1 hu
       simp only [Token.toV,V.cells,List.mem_cons,List.mem_nil_iff,or_false] at hvu
       rcases hvu with rfl | rfl | rfl <;> rfl
theorem VCalls.trimT {P:Program} {g:FuncId} {args:List V} {t0:S} {l:List Token} (h:VCalls P g args t0 (fun v t=>∃ (s':S) (c lv:Nat) (rest:List V) (H:List BE),t=s'.ext []∧v = .slm (.is c) lv 0 l.length∧Hold s' s'.next (.cell lv (V.flat (l.map Token.toV)++rest)::H))) :
   VCalls P g args t0 (fun v t=>Own2 (.sl 0 (l.map Token.toV)) v t):=by
 refine VCalls.turn h ?_
 rintro v t _ ⟨s',c,lv,rest,H,rfl,rfl,hh⟩
 obtain ⟨s2,h1,h2⟩:=cell_own2 rfl hh
 exact ⟨_,s2,h1,h2⟩
set_option maxHeartbeats 4000000 in
theorem cloneTok_c (l:List Token) (hne:l≠[]) (hl:l.length≤1048576) {s:S} {H:List BE} (hh:Hold s s.next H):VCalls Try.prog 22 [.sl 0 (l.map Token.toV)] (s.ext []) (fun v t=>∃ (s':S) (c lv:Nat) (rest:List V),t=s'.ext []∧v = .slm (.is c) lv 0 l.length∧l.length≤c∧rest.length=(c - l.length)*3∧Hold s' s'.next (.cell lv (V.flat (l.map Token.toV)++rest)::H)):=by
 replace hh:=hh.ext0
 generalize s.ext []=s at hh ⊢
 have he:(l.map Token.toV).isEmpty=false:=by cases l with | nil=>exact absurd rfl hne | cons _ _=>rfl
 have hlm:(l.map Token.toV).length=l.length:=List.length_map ..
 have hbb:(l.map Token.toV).length≤1099511627776:=by omega
 refine LCalls.body Try.func22 rfl (by kernel_rfl) ?_
 repeat' first |(refine kBsl ?_ ;first |(refine LOps.ans (AnsL.bslN tT_ok rfl rfl rfl rfl rfl) ?_)) |(refine WL.regionNil tT_ok rfl rfl rfl rfl (fun b hb=>?_) ;obtain rfl:=hb he) |(refine kApp ?_ ;refine LOps.appS tT_ok rfl rfl rfl rfl rfl rfl rfl he hh (consTok l _) (Elems.map fun _=>rfl) (AppB.of hbb rfl) ?_ ;intro s c n hh) |(refine kOps ?_;first |(refine LOps.nil ?_) |(refine LOps.ev tT_ok rfl ?_)) |(refine kWL ?_;first |(refine WL.seq ?_) |(refine WL.region (by kernel_rfl) ?_) |(refine WL.skip ?_) |(refine WL.ret ?_) |(refine kCond ?_;first |(refine WL.condF rfl ?_))) |(refine lthen_n ?_) |(refine LPost.r1 (r := .tmp 2) (.inl rfl) (Res1.tmp rfl) ?_)
 obtain ⟨rest,r1,r2,r3,hh⟩:=hh.uncellT hne
 rw [r3] at r1 r2 ⊢
 exact ⟨s,c,n,rest,rfl,rfl,r2,r1,hh⟩
end Go.Proofs.Ytikghanejpigjaa
