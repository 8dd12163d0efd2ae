/-
 Pairs of parentheses: what the program's PairsOf answers, in new memory. Own work; no condition.
-/
import Derived.Test.YtikghanejpigjaaVStack
import Derived.Test.YtikghanejpigjaaDPairS
import Derived.Test.YtikghanejpigjaaDSortP
namespace Go.Proofs.Ytikghanejpigjaa
open Go
set_option linter.unusedSimpArgs false
set_option linter.unusedVariables false
theorem RelS.trim {E:Env} {s s':S} (h:RelS E s) (hv:∀ l cs,s'.vars l=some cs→∃ rest,s.vars l=some (cs++rest)) (hf:s'.fams=s.fams) (hn:s'.next=s.next):RelS E s':=by
 have hs:∀ l,(s'.vars l).isSome=true→(s.vars l).isSome=true:=fun l hl=>by
   obtain ⟨cs,hcs⟩:=Option.isSome_iff_exists.1 hl
   obtain ⟨rest,hr⟩:=hv l cs hcs
   rw [hr];rfl
 refine ⟨⟨fun l cs hl=>?_,fun l l' g a b=>h.varinj l l' g (hs l a) (hs l' b),by rw [hf];exact h.fam,by rw [hf];exact h.faminj,fun l g id F a=>by rw [hf];exact h.famvar l g id F (hs l a),by rw [hn];exact h.fresh,by rw [hn];exact h.pos,h.imm⟩,h.tab.less rfl fun k t=>?_⟩
 · obtain ⟨rest, hr⟩ := hv l cs hl
   obtain ⟨g,arr,e,fr,h1,h2⟩:=h.var l _ hr
   have hlen:cs.length≤(cs++rest).length:=by simp
   refine ⟨g,arr,e,fr,h1,⟨h2.heap,?_,by have:=h2.le;omega,fun o ho=>h2.free o (by omega),h2.imm⟩⟩
   obtain ⟨a,b,hab,ha,hb⟩:=h2.rep.split
   have hal:=ha.length
   have:arr.toList.take cs.length=a:=by
     have e1:(arr.toList.take (cs++rest).length).take cs.length=arr.toList.take cs.length:=by rw [List.take_take,Nat.min_eq_left hlen]
     rw [← e1,hab,List.take_append_of_le_length (by omega),List.take_of_length_le (by omega)]
   rw [this];exact ha
 · rcases t with ⟨l, a, b⟩ | ⟨id, F, a, b, c⟩
   · exact .inl ⟨l,hs l a,b⟩
   · exact .inr ⟨id,F,by rw [hf] at a;exact a,b,c⟩
def S.trimP (s:S) (l:Nat) (us:List V):S:={ s with vars:=fun x=>if x=l then some us else (s.vars x).map (List.take 2) }
theorem OwL.trP {s:S} {l:Nat} {ws:List V}:∀ {xs:List (Int × Int)} {us:List V} {la:List (Bool × Nat)},OwL s us (xs.map pairV) la→(true,l) ∉ la→TrL (s.trimP l ws) us (V.flat (xs.map pairV)) la
 | [],us,la,h,_=>by cases h;exact .nil
 | x::xs,us,la,h,hl=>by
   cases h with
   | @cons v vs _ _ a b h1 h2 =>
     have e:V.flat ((x::xs).map pairV)=pairV x::V.flat (xs.map pairV):=by rw [List.map_cons,flat_cons];rfl
     rw [e]
     refine .cons ?_ (OwL.trP h2 fun hm=>hl (List.mem_append_right _ hm))
     unfold pairV at h1 ⊢
     cases h1 with
     | scal h=>simp [V.scal] at h
     | @slc l2 n c sz us2 ds rest la2 g1 g2 g3 g4 g5 g0 g6 =>
       cases g6 with
       | @cons v1 vs1 _ _ a1 b1 q1 q2=>cases q2 with
         | @cons v2 vs2 _ _ a2 b2 q3 q4 =>
           cases q4
           cases q1 with
           | scal _=>cases q3 with
             | scal _ =>
               subst g2
               refine .slm (sz':=1) rfl rfl (fun x hx=>?_) (us:=[.int .i64 x.1,.int .i64 x.2]) ?_ (.cons (.scal rfl) (.cons (.scal rfl) .nil))
               · simp only [List.mem_cons, List.mem_nil_iff, or_false] at hx
                 rcases hx with rfl | rfl <;> rfl
               · have hne : l2 ≠ l := fun e => hl (by rw [e]; simp)
                 show (if l2=l then some ws else (s.vars l2).map (List.take 2))=_
                 rw [if_neg hne,g1]
                 rfl
theorem pairs_own2 {s:S} {H:List BE} {v:V} {ys:List (Int × Int)} (h:Hold s s.next (.own v (.sl 0 (ys.map pairV))::H)):∃ s':S,VTurn v (s.ext []) v s'∧Own2 (.sl 0 (ys.map pairV)) v s':=by
 have h0:=h.ext0
 generalize s.ext []=t at h0 ⊢
 obtain ⟨ls,h1,h2,h3⟩:=h0.ex
 cases h1 with
 | @cons _ a0 _ b0 k1 k2 =>
   have k1':Ow t v (.sl 0 (ys.map pairV)) a0:=k1
   generalize hds:ys.map pairV=ds at k1'
   cases k1' with
   | scal h=>simp [V.scal] at h
   | slm0 =>
     have:ys=[]:=by simpa using hds
     subst this
     exact ⟨t,fun E val hr hv=>⟨E,rfl,.refl _ _,hr,hv⟩,[],.emp',List.nodup_nil⟩
   | @slc l n c sz us _ rest la g1 g2 g3 g4 g5 g0 g6 =>
     subst hds
     obtain ⟨hfl,hul,_⟩:=g6.pairs
     rw [hfl] at g1
     have hnd:(la++[(true,l)]).Nodup:=(List.nodup_append.1 h2).1
     have hnl:(true,l) ∉ la:=fun hm=>(List.nodup_append.1 hnd).2.2 _ hm _ (by simp) rfl
     refine ⟨t.trimP l us,fun E val hr hv=>?_,_,.slm (sz':=1) ?_ ?_ (fun x hx=>?_) (us:=us) (by show (if l=l then _ else _)=_;rw [if_pos rfl]) (g6.trP hnl),hnd⟩
     · have hr':RelS E (t.trimP l us):=hr.trim (fun x cs hx=>by
         change (if x=l then some us else (t.vars x).map (List.take 2))=some cs at hx
         split at hx
         · rename_i e;subst e;cases hx;exact ⟨rest,g1⟩
         · obtain ⟨cs0, e1, rfl⟩ := Option.map_eq_some_iff.1 hx
           exact ⟨cs0.drop 2,by rw [e1,List.take_append_drop]⟩) rfl rfl
       refine ⟨E,rfl,⟨.refl E,rfl,rfl,rfl,Nat.le_refl _,fun _ _ _=>rfl,fun k _ tr=>?_,Nat.le_refl _⟩,hr',hv⟩
       rcases tr with ⟨x,a,b⟩ | ⟨id,F,a,b,c⟩
       · refine .inl ⟨x, ?_, b⟩
         change ((if x=l then some us else (t.vars x).map (List.take 2)):Option (List V)).isSome=true at a
         split at a
         · rename_i e;rw [e,g1];rfl
         · simpa using a
       · exact .inr ⟨id,F,a,b,c⟩
     · cases ys with
       | nil=>simp at hul;exact absurd hul g0
       | cons _ _=>rfl
     · rw [List.length_map];omega
     · obtain ⟨y,_,rfl⟩:=List.mem_map.1 hx;rfl
theorem VCalls.trimP {P:Program} {g:FuncId} {args:List V} {t0:S} {ys:List (Int × Int)} (h:VCalls P g args t0 (fun v t=>∃ (s':S) (H:List BE),t=s'.ext []∧Hold s' s'.next (.own v (.sl 0 (ys.map pairV))::H))) :
   VCalls P g args t0 (fun v t=>Own2 (.sl 0 (ys.map pairV)) v t):=by
 refine VCalls.turn h ?_
 rintro v t _ ⟨s',H,rfl,hh⟩
 obtain ⟨s2,h1,h2⟩:=pairs_own2 hh
 exact ⟨v,s2,h1,h2⟩
theorem AnsL.idxK {P:Program} {L:Kn} {s:S} {tt:BT} (ht:tt.ok P) {T e:TypeId} {t te:Ty} {x i:Operand} {ex:Cp} {b off len j:Nat} {m:Int} {k:IntKind} (hx:opd L x=some (.slm ex b off len)) (hi:opd L i=some (.int k m)) (hm:m=(j:Int)) (hT:tt.get T=some t) (hkd:t.kd = .slice e)
   (hte:tt.get e=some te) (hj:j<len):AnsL P (.indexAddr T x i) L s (.ptr b (off+j*te.size)):=by
 subst hm
 exact AnsL.idxO ht hx hi hT hkd hte hj
end Go.Proofs.Ytikghanejpigjaa
