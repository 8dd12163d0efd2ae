/-
 A slice of one's own appended to itself in place; cleared. Own work; no condition.
-/
import Derived.Test.YtikghanejpigjaaVDel
namespace Go.Proofs.Ytikghanejpigjaa
open Go
set_option linter.unusedSimpArgs false
set_option linter.unusedVariables false
theorem LOps.gengN {P:Program} {N:Nat} {ops:Array Oper} {l:List Oper} {K:Kn→S→Prop} {L:Kn} {s:S} {ty:TypeId} {p:String} {a:Array Edge} {op:Op} {vs:List V} {R:V→S→Prop} (hv:opdL L op.operands.toList=some vs)
   (hg:∀ E (A:Act),RelS E s→RepL E vs (op.operands.toList.map A.eval)→∃ v s',R v s'∧DoesO P ⟨none,op,ty,p,a,none⟩ A E s v s') (hk:∀ v s',R v s'→LOps P N ops l K L s'):LOps P N ops (⟨none,op,ty,p,a,none⟩::l) K L s:=by
 refine ⟨fun hd σ hσ => ?_⟩
 simp only [List.all_cons,Bool.and_eq_true] at hd
 refine ⟨hd.1,?_⟩
 simp only [vwanted]
 refine .inr ⟨vs,R,opdL_eq hσ hv,hg,fun v s' hr=>(hk v s' hr).run hd.2 _ hσ⟩
section
variable {P:Program} {T ty e:TypeId} {i:TypeInfo} {z:Value} {E:Env} {s:S}
theorem own_shift {te:Ty} (hd:P.underlying T=some (.slice e)) (hi:P.info? e=some i) (hs:te.size=i.size) (hr:RelS E s) {l c n h j m o:Nat} {us rest:List V} {xv yv:Value} {ex:Cp} (ho:o=j*te.size)
   (hx:RepV E (.slm (.is c) l 0 h) xv) (hy:RepV E (.slm ex l o m) yv) (hv:s.vars l=some (V.flat us++rest)) (hn:us.length=n) (hus:∀ u∈us,u.cells.length=te.size) (hrl:rest.length=(c - n)*te.size) (hnc:n≤c) (hc:0<c)
   (hone:(V.flat us).all V.one=true) (hjm:j+m=n) (hhj:h+m≤n) (hm:0<m) :
   Does P (Builtin.append_ #[T,T] ty #[xv,yv]) E s (.slm (.is c) l 0 (h+m)) (s.setVar l (V.flat (us.take h++us.drop j)++(V.flat us++rest).drop ((h+m)*te.size))):=by
 cases hx with
 | slm0=>omega
 | @slm _ _ _ _ cap g hg hle hcm hex =>
   have hc':cap=c:=hex
   subst hc'
   cases hy with
   | slm0=>omega
   | @slm _ _ _ _ cap2 g2 hg2 hle2 hcm2 hex2 =>
     rw [hg] at hg2
     cases hg2
     subst ho
     obtain ⟨g',arr,et,fr,h1,h2⟩:=hr.var _ _ hv
     rw [hg] at h1
     cases h1
     have hul:(V.flat us).length=n*te.size:=by rw [flat_uniform hus,hn]
     have hCS:(V.flat us++rest).length=cap*te.size:=by rw [List.length_append,hul,hrl, ← Nat.add_mul,show n+(cap - n)=cap by omega]
     have hsz:=h2.le
     rw [hCS] at hsz
     have hrepA:=h2.rep
     rw [hCS] at hrepA
     have b1:h*te.size+m*te.size=(h+m)*te.size:=(Nat.add_mul ..).symm
     have b2:j*te.size+m*te.size=n*te.size:=by rw [← Nat.add_mul,hjm]
     have b3:(h+m)*te.size≤n*te.size:=Nat.mul_le_mul_right _ hhj
     have b4:n*te.size≤cap*te.size:=Nat.mul_le_mul_right _ hnc
     have harr:arr.toList.length=arr.size:=Array.length_toList
     have hnews:(((arr.toList.take (cap*te.size)).drop (j*te.size)).take (m*te.size))=(arr.toList.drop (j*te.size)).take (m*te.size):=by
       rw [List.drop_take,List.take_take,Nat.min_eq_left (by omega)]
     have hnr:RepL E (V.flat (us.drop j)) ((arr.toList.drop (j*te.size)).take (m*te.size)):=by
       have h5:=(hrepA.drop (j*te.size)).take (m*te.size)
       rw [hnews,List.drop_append_of_le_length (by omega),List.take_append_of_le_length (by rw [List.length_drop];omega),flat_drop hus,List.take_of_length_le (by rw [← flat_drop hus,List.length_drop];omega)] at h5
       exact h5
     have hnl:((arr.toList.drop (j*te.size)).take (m*te.size)).length=m*te.size:=by
       rw [List.length_take,List.length_drop];omega
     have hrun:=run_append_room' (P:=P) (w:=E.w) (ty:=ty) (sLen:=h) (sCap:=cap) hd hi h2.heap (fun x q1 q2=>h2.free x (by rw [hCS];rw [← hs] at q2;omega)) (a:=⟨g,j*te.size,none⟩) (m:=m) (c:=cap2) (news:=(arr.toList.drop (j*te.size)).take (m*te.size)) (by rw [hnl,hs])
       (fun t u hu=>by
         rw [List.getElem?_take] at hu
         split at hu
         · rw [add_eq, cell_of_row E.w _ _ arr et fr h2.heap]
           rw [List.getElem?_drop] at hu
           simpa using hu
         · cases hu) (RepL.one hnr (by
           rw [List.all_eq_true] at hone ⊢
           intro x hx
           rw [← flat_drop hus] at hx
           exact hone x (List.mem_of_mem_drop hx))) (by omega) (by rw [hnl, ← hs];omega)
     rw [hnl, ← hs,b1] at hrun
     have hfl:V.flat (us.take h++us.drop j)=V.flat (us.take h)++V.flat (us.drop j):=flat_app _ _
     have l1:(V.flat (us.take h)).length=h*te.size:=by rw [← flat_take hus,List.length_take];omega
     have l2:(V.flat (us.drop j)).length=m*te.size:=by rw [← flat_drop hus,List.length_drop];omega
     have l3:((V.flat us++rest).drop ((h+m)*te.size)).length=cap*te.size - (h+m)*te.size:=by rw [List.length_drop,hCS]
     have l4:(V.flat (us.take h++us.drop j)++(V.flat us++rest).drop ((h+m)*te.size)).length=cap*te.size:=by
       rw [hfl,List.length_append,List.length_append,l1,l2,l3];omega
     obtain ⟨q1,q2⟩:=step_setVar hr (l:=l) (g:=g) (cs:=V.flat (us.take h++us.drop j)++(V.flat us++rest).drop ((h+m)*te.size)) (arr1:=(arr.toList.take (h*te.size)++(arr.toList.drop (j*te.size)).take (m*te.size)++arr.toList.drop ((h+m)*te.size)).toArray) hv hg h2 (by rw [l4,hCS]) (by
         rw [l4,hfl]
         show RepL E _ ((arr.toList.take (h*te.size)++(arr.toList.drop (j*te.size)).take (m*te.size)++arr.toList.drop ((h+m)*te.size)).take _)
         have e1:(arr.toList.take (h*te.size)++(arr.toList.drop (j*te.size)).take (m*te.size)++arr.toList.drop ((h+m)*te.size)).take (cap*te.size)=arr.toList.take (h*te.size)++(arr.toList.drop (j*te.size)).take (m*te.size)++(arr.toList.take (cap*te.size)).drop ((h+m)*te.size):=by
           have k1:(arr.toList.take (h*te.size)++(arr.toList.drop (j*te.size)).take (m*te.size)).length=(h+m)*te.size:=by rw [List.length_append,hnl,List.length_take];omega
           rw [List.take_append,k1,List.take_of_length_le (by rw [k1];omega),List.drop_take]
         rw [e1]
         refine (RepL.append ?_ hnr).append (hrepA.drop _)
         have h6:=hrepA.take (h*te.size)
         rw [List.take_take,Nat.min_eq_left (by omega),List.take_append_of_le_length (by omega),flat_take hus] at h6
         exact h6) (by
         rw [l4]
         simp only [List.size_toArray,List.length_append,List.length_drop,List.length_take]
         omega)
     exact ⟨_,_,hrun,q1,q2,.slm (q1.ev.loc _ _ hg) (by omega) hcm rfl⟩
theorem own_clear {te:Ty} (hd:P.underlying T=some (.slice e)) (hi:P.info? e=some i) (hz:i.zero=some z) (hs:te.size=i.size) (hzs:z.cells.size=i.size) (hz1:∀ x∈z.cells.toList,x.oneCell'=true) (hp:0<te.size) (hr:RelS E s) {l o m:Nat} {pre rest:List V} {xv:Value} {ex:Cp}
   (hx:RepV E (.slm ex l o m) xv) (hv:s.vars l=some (pre++rest)) (ho:pre.length=o) (hrl:m*te.size≤rest.length) (hm:0<m) :
   ∃ rest':List V,rest'.length=rest.length∧Does P (Builtin.clear_ #[T] ty #[xv]) E s (.tup []) (s.setVar l (pre++rest')):=by
 cases hx with
 | slm0=>omega
 | @slm _ _ _ _ cap g hg hle hcm hex =>
   obtain ⟨g',arr,et,fr,h1,h2⟩:=hr.var _ _ hv
   rw [hg] at h1
   cases h1
   have hsz:=h2.le
   rw [List.length_append,ho] at hsz
   have harr:arr.toList.length=arr.size:=Array.length_toList
   have hzl:(Builtin.zeroCells z.cells m).toList.length=m*te.size:=by rw [Array.length_toList,size_zeroCells,hzs,hs]
   have hz2:∀ x∈(Builtin.zeroCells z.cells m).toList,x.oneCell'=true:=fun x hx=>by
     unfold Builtin.zeroCells at hx
     simp only [Array.toList_map,List.mem_map] at hx
     obtain ⟨k,_,rfl⟩:=hx
     have hlt:k % z.cells.size<z.cells.size:=Nat.mod_lt _ (by omega)
     rw [getElem!_pos z.cells _ hlt]
     exact hz1 _ (by simp)
   have hst:=run_storeCells_fr P g o et fr (Builtin.zeroCells z.cells m).toList 0 arr E.w h2.heap (by rw [hzl];omega) (fun x q1 q2=>h2.free x (by rw [List.length_append,ho];rw [hzl] at q2;omega)) hz2
   rw [Nat.add_zero,hzl] at hst
   obtain ⟨va,vb,hab,hva,hvb⟩:=RepL.split h2.rep
   have hlen:(pre++rest).length=o+rest.length:=by rw [List.length_append,ho]
   rw [hlen] at hab
   have hval:=hva.length
   have hvbl:=hvb.length
   have htake:arr.toList.take o=va:=by
     have:(arr.toList.take (o+rest.length)).take o=arr.toList.take o:=by rw [List.take_take,Nat.min_eq_left (by omega)]
     rw [← this,hab,List.take_append_of_le_length (by omega),List.take_of_length_le (by omega)]
   have hdrop:(arr.toList.drop (o+m*te.size)).take (rest.length - m*te.size)=vb.drop (m*te.size):=by
     have e1:vb=(arr.toList.take (o+rest.length)).drop o:=by rw [hab,List.drop_append_of_le_length (by omega),List.drop_of_length_le (by omega),List.nil_append]
     rw [e1,List.drop_drop,List.drop_take]
     congr 1
     omega
   rw [htake] at hst
   have hrl2:(((Builtin.zeroCells z.cells m).toList.map V.raw)++rest.drop (m*te.size)).length=rest.length:=by
     rw [List.length_append,List.length_map,hzl,List.length_drop];omega
   obtain ⟨q1,q2⟩:=step_setVar hr (l:=l) (g:=g) (cs:=pre++(((Builtin.zeroCells z.cells m).toList.map V.raw)++rest.drop (m*te.size))) (arr1:=(va++(Builtin.zeroCells z.cells m).toList++arr.toList.drop (o+m*te.size)).toArray) hv hg h2 (by
       rw [List.length_append (as:=pre),hrl2,List.length_append]) (by
       rw [List.length_append (as:=pre),hrl2,ho]
       show RepL E _ ((va++(Builtin.zeroCells z.cells m).toList++arr.toList.drop (o+m*te.size)).take _)
       have e1:(va++(Builtin.zeroCells z.cells m).toList++arr.toList.drop (o+m*te.size)).take (o+rest.length)=va++((Builtin.zeroCells z.cells m).toList++vb.drop (m*te.size)):=by
         have k1:(va++(Builtin.zeroCells z.cells m).toList).length=o+m*te.size:=by rw [List.length_append,hzl];omega
         rw [List.take_append,k1,List.take_of_length_le (by rw [k1];omega), ← hdrop,List.append_assoc]
         congr 3
         omega
       rw [e1]
       exact hva.append ((RepL.raws _).append (hvb.drop _))) (by
       rw [List.length_append (as:=pre),hrl2,ho]
       simp only [List.size_toArray,List.length_append,List.length_drop]
       omega)
   refine ⟨_,hrl2,.tuple #[],_,?_,q1,q2,?_⟩
   · obtain ⟨k, rfl⟩ : ∃ k, m = k + 1 := ⟨m - 1, by omega⟩
     simp [Builtin.clear_,run_underlying hd,zeroValue,run_typeInfo' hi,hz,hst]
     rfl
   · exact .tup .nil
end
section
variable {P:Program} {N:Nat} {ops:Array Oper} {l:List Oper} {K:Kn→S→Prop} {L:Kn} {s:S} {tt:BT} {d:Nat} {ty:TypeId} {p:String} {a:Array Edge} {H H1:List BE}
theorem setVar_self {s:S} {l:Nat} {cs:List V} (h:s.vars l=some cs):s.setVar l cs=s:=by
 cases s with
 | mk vars fams next =>
   simp only [S.setVar,S.mk.injEq,and_true]
   funext x
   split
   · rename_i e;rw [e];exact h.symm
   · rfl
theorem Hold.wr {s:S} {lv:Nat} {i:Nat} {cs cs':List V} (hh:Hold s s.next H) (hi:nthO H i=some (.cell lv cs)) (he:eraO H i=some H1):s.vars lv=some cs∧lv<s.next∧Hold (s.setVar lv cs') (s.setVar lv cs').next (.cell lv cs'::H1):=by
 obtain ⟨ls,h1,h2,h3⟩:=hh.ex
 obtain ⟨a0,l0,k1,k2,k3⟩:=h1.take hi he
 obtain ⟨rfl,hv⟩:a0=[(true,lv)]∧s.vars lv=some cs:=k1
 have hnd:=k3.1 h2
 have hlt:∀ p∈[(true,lv)]++l0,p.2<s.next:=fun p hp=>h3 p (k3.2 p hp)
 have hlv:lv<s.next:=hlt (true,lv) (by simp)
 refine ⟨hv,hlv,?_⟩
 have hnot:∀ p∈l0,SameOn s (s.setVar lv cs') p:=fun p hp=>by
   have hne:p≠(true,lv):=by
     rintro rfl
     rw [List.singleton_append,List.nodup_cons] at hnd
     exact hnd.1 hp
   refine ⟨fun e=>?_,fun _=>rfl⟩
   have:p.2≠lv:=fun e2=>hne (by rw [← e, ← e2])
   simp [S.setVar,this]
 exact ⟨[(true,lv)]++l0,.cons ⟨rfl,by simp [S.setVar]⟩ (HoldL.congr (s:=s) (s':=s.setVar lv cs') (show s.next≤s.next from Nat.le_refl _) k2 hnot),hnd,hlt⟩
theorem LOps.appI (ht:tt.ok P) {T U e:TypeId} {t te:Ty} {x y:Operand} {c lv n h j m o:Nat} {ex:Cp} {us rest:List V} (i:Nat) (hx:opd L x=some (.slm (.is c) lv 0 h)) (hy:opd L y=some (.slm ex lv o m)) (hi:nthO H i=some (.cell lv (V.flat us++rest))) (he:eraO H i=some H1)
   (hT:tt.get T=some t) (hkd:t.kd = .slice e) (hte:tt.get e=some te) (hU:Nat.beq U T=true) (hh:Hold s s.next H)
   (hun:us.length=n) (hus:∀ u∈us,u.cells.length=te.size) (hone:(V.flat us).all V.one=true) (hrl:rest.length=(c - n)*te.size) (hnc:n≤c) (hc:0<c) (ho:0<m→o=j*te.size) (hjm:j+m=n) (hhj:h+m≤n)
   (hk:∀ (s':S) (rest':List V),rest'.length=(c - (h+m))*te.size→Hold s' s'.next (.cell lv (V.flat (us.take h++us.drop j)++rest')::H1)→LOps P N ops l K ((d,.slm (.is c) lv 0 (h+m))::L) (s'.ext [])):LOps P N ops (⟨some d,appCall x y #[T,U],ty,p,a,none⟩::l) K L (s.ext []):=by
 have hU':=Nat.eq_of_beq_eq_true hU
 subst hU'
 obtain ⟨hv,hlv,hw⟩:=hh.wr (cs':=V.flat (us.take h++us.drop j)++(V.flat us++rest).drop ((h+m)*te.size)) hi he
 have hul:(V.flat us).length=n*te.size:=by rw [flat_uniform hus,hun]
 have hCS:(V.flat us++rest).length=c*te.size:=by rw [List.length_append,hul,hrl, ← Nat.add_mul,show n+(c - n)=c by omega]
 refine .geng (vs:=[.slm (.is c) lv 0 h,.slm ex lv o m]) (R:=fun v s'=>v = .slm (.is c) lv 0 (h+m)∧s'=(s.ext []).setVar lv (V.flat (us.take h++us.drop j)++(V.flat us++rest).drop ((h+m)*te.size))) (by
   show opdL L [x,y]=_
   simp only [opdL,hx,hy]) (fun E A hr hrep=>?_) (fun v' s' hR=>?_)
 · obtain ⟨i0, hd, hi0, hs0⟩ := slc_tys ht hT hkd hte
   have hrep':RepL E [.slm (.is c) lv 0 h,.slm ex lv o m] [A.eval x,A.eval y]:=hrep
   cases hrep' with
   | cons r1 r2=>cases r2 with
     | cons r2 r3 =>
       have hexec:execOp A.eval ⟨some d,appCall x y #[U,U],ty,p,a,none⟩=builtin .append #[U,U] ty (#[x,y].map fun | .const _=>true | _=>false) (#[x,y].map A.eval):=by
         simp only [execOp,appCall,resolve]
         rfl
       have hv':(s.ext []).vars lv=some (V.flat us++rest):=by rw [ext_vars_lt s [] hlv];exact hv
       refine ⟨_,_,⟨rfl,rfl⟩,?_⟩
       refine .of (m:=Builtin.append_ #[U,U] ty #[A.eval x,A.eval y]) ?_ ?_
       · rcases Nat.eq_zero_or_pos m with rfl | hm
         · have hj : j = us.length := by omega
           have e1:V.flat (us.take h++us.drop j)++(V.flat us++rest).drop ((h+0)*te.size)=V.flat us++rest:=by
             have q1:h*te.size≤n*te.size:=Nat.mul_le_mul_right _ (by omega)
             rw [hj,List.drop_length,List.append_nil,Nat.add_zero,List.drop_append_of_le_length (by omega), ← flat_take hus, ← List.append_assoc,List.take_append_drop]
           rw [e1,setVar_self hv',Nat.add_zero]
           generalize A.eval x=xv at r1
           generalize A.eval y=yv at r2
           obtain ⟨b1,c1,rfl,hb1⟩:∃ b1 c1,xv = .slice b1 h c1∧h≤c1:=by
             cases r1 with
             | slm0=>exact ⟨_,_,rfl,Nat.le_refl _⟩
             | slm q1 q2 q3 q4=>exact ⟨_,_,rfl,q2⟩
           obtain ⟨b2,c2,rfl⟩:∃ b2 c2,yv = .slice b2 0 c2:=by
             cases r2 with
             | slm0=>exact ⟨_,_,rfl⟩
             | slm q1 q2 q3 q4=>exact ⟨_,_,rfl⟩
           exact .pure hr (run_append_none hd hi0 _ _ _ _ _ hb1) r1
         · exact own_shift hd hi0 hs0 hr (ho hm) r1 r2 hv' hun hus hrl hnc hc hone hjm hhj hm
       · rw [hexec, show #[x, y].map A.eval = #[A.eval x, A.eval y] by simp]
         rfl
 · obtain ⟨rfl, rfl⟩ := hR
   rw [ext0_setVar hlv]
   refine hk _ _ ?_ hw
   rw [List.length_drop,hCS, ← Nat.sub_mul]
def clearCall (x:Operand) (A:Array TypeId):Op := .call ⟨.builtin .clear, #[x],A⟩
theorem LOps.clr (ht:tt.ok P) {T e:TypeId} {t te:Ty} {x:Operand} {lv o m:Nat} {ex:Cp} {pre rest:List V} (i:Nat) (hx:opd L x=some (.slm ex lv o m)) (hi:nthO H i=some (.cell lv (pre++rest))) (he:eraO H i=some H1)
   (hT:tt.get T=some t) (hkd:t.kd = .slice e) (hte:tt.get e=some te) (hz:(Nat.beq te.zero.length te.size&&(Nat.blt 0 te.size&&te.zero.all V.one))=true) (hh:Hold s s.next H) (ho:pre.length=o) (hrl:m*te.size≤rest.length) (hm:0<m)
   (hk:∀ (s':S) (rest':List V),rest'.length=rest.length→Hold s' s'.next (.cell lv (pre++rest')::H1)→LOps P N ops l K L (s'.ext [])):LOps P N ops (⟨none,clearCall x #[T],ty,p,a,none⟩::l) K L (s.ext []):=by
 simp only [Bool.and_eq_true] at hz
 have hv:=(hh.wr (cs':=[]) hi he).1
 have hlv:=(hh.wr (cs':=[]) hi he).2.1
 refine .gengN (vs:=[.slm ex lv o m]) (R:=fun v s'=>∃ rest':List V,rest'.length=rest.length∧s'=(s.ext []).setVar lv (pre++rest')) (by
   show opdL L [x]=_
   simp only [opdL,hx]) (fun E A hr hrep=>?_) (fun v' s' hR=>?_)
 · obtain ⟨i0, hd, hi0, hs0⟩ := slc_tys ht hT hkd hte
   obtain ⟨i1,z,hi1,hz1,hs1,hzs1,hrep1⟩:=zero_rep (ht.get hte) ⟨Nat.eq_of_beq_eq_true hz.1,by simpa using hz.2.1⟩
   rw [hi0] at hi1
   cases hi1
   have hrep':RepL E [.slm ex lv o m] [A.eval x]:=hrep
   cases hrep' with
   | cons r1 r2 =>
     have hv':(s.ext []).vars lv=some (pre++rest):=by rw [ext_vars_lt s [] hlv];exact hv
     obtain ⟨rest',hl,hdo⟩:=own_clear (P:=P) (ty:=ty) (T:=T) hd hi0 hz1 hs0 hzs1 (RepL.one (hrep1 E) hz.2.2) (by simpa using hz.2.1) hr r1 hv' ho hrl hm
     refine ⟨_,_,⟨rest',hl,rfl⟩,.of hdo ?_⟩
     have hexec:execOp A.eval ⟨none,clearCall x #[T],ty,p,a,none⟩=builtin .clear #[T] ty (#[x].map fun | .const _=>true | _=>false) (#[x].map A.eval):=by
       simp only [execOp,clearCall,resolve]
       rfl
     rw [hexec,show #[x].map A.eval = #[A.eval x] by simp]
     rfl
 · obtain ⟨rest', hl, rfl⟩ := hR
   rw [ext0_setVar hlv]
   exact hk _ _ hl (hh.wr hi he).2.2
end
end Go.Proofs.Ytikghanejpigjaa
