/-
  A list without one pair of parentheses: the program's WithoutPair, walked.
  Slices of the caller's that a call appends to.
  Own work; no condition.
-/
import Derived.Test.YtikghanejpigjaaMg28
import Derived.Test.YtikghanejpigjaaDPairL
import Derived.Test.YtikghanejpigjaaMg10
namespace Go.Proofs.Ytikghanejpigjaa
open Go
set_option linter.unusedSimpArgs false
set_option linter.unusedVariables false
theorem plain_pairs (ps:List (Int × Int)):(V.sl 0 (ps.map pairV)).plain=true:=by
 have e:ps.map pairV=(ps.map fun p=>[p.1,p.2]).map ints:=by rw [List.map_map];rfl
 rw [e]
 exact plain_IntSS _
theorem cloneTok0_v (s:S):VCalls Try.prog 22 [.sl 0 []] s (fun v t=>v = .sl 0 []∧t=s):=by
 refine VCalls.pureOf rfl rfl (fun s=>?_) s
 refine LCalls.body Try.func22 rfl (by kernel_rfl) ?_
 repeat' first |(refine WL.regionNil tT_ok rfl rfl rfl rfl (fun b hb=>?_) ;cases b) |(refine kOps ?_;first |(refine LOps.nil ?_) |(refine LOps.ev tT_ok rfl ?_) |(refine kBsl ?_;first |(refine LOps.bsl0 tT_ok rfl rfl rfl rfl rfl ?_)) |(refine kApp ?_;first |(refine LOps.app0 tT_ok rfl rfl rfl rfl rfl rfl rfl rfl rfl rfl rfl ?_ (AppB.of ?_ rfl) ?_;(focus (first | exact Elems.of rfl | exact Elems.map fun _=>rfl | exact PE.els _ (fun _=>rfl) _));(focus (first | omega |(simp <;> fail)))))) |(refine kWL ?_;first |(refine WL.seq ?_) |(refine WL.region (by kernel_rfl) ?_) |(refine WL.skip ?_) |(refine WL.ret ?_) |(refine kCond ?_;first |(refine WL.condT rfl ?_) |(refine WL.condF rfl ?_))) |(refine lthen_n ?_) |(refine lthen_r ?_) |(refine LPost.r1 (r := .tmp 2) (.inl rfl) (Res1.tmp rfl) ?_)
 · exact Own2.fam (f:=Token.toV) (cs:=[]) (szf:=3) 3 (by simp [nthO]) (fun _=>rfl) (fun _=>rfl)
 · exact ⟨[],.nilsl,List.nodup_nil⟩
set_option maxHeartbeats 4000000 in
theorem implWithoutPair_o (l:List Token) (hl:l.length≤1048576) (k:Int) (s:S):VCalls Try.prog 9 [.sl 0 (l.map Token.toV),.int .i64 k] s (fun v t=>Own2 (.sl 0 ((wP l k).map Token.toV)) v t):=by
 have hP:=fun t=>VCalls.pureOf (ds:=[.sl 0 (l.map Token.toV)]) (by simpa [V.plainL] using plain_TokenS l) (plain_pairs (pairs l)) (fun t=>implPairsOf_o l hl t) t
 have hpl:=pairs_len l
 by_cases hne:l=[]
 · subst hne
   have hC:=fun t=>cloneTok0_v t
   have hw:wP [] k=[]:=wP_out (by show ¬ (0≤k∧k<0);omega)
   rw [hw]
   change ∀ t,VCalls _ _ [.sl 0 []] t (fun v s'=>v = .sl 0 []∧s'=t) at hP
   by_cases hk:k<0
   · skip
     refine LCalls.body Try.func9 rfl (by kernel_rfl) ?_
     repeat' first |(refine kOps ?_;first |(refine LOps.nil ?_) |(refine kG ?_;first |(refine LOps.gF rfl rfl rfl ?_) |(refine LOps.gD true rfl rfl rfl ?_ ?_;(focus (first |(exact decide_eq_true (by assumption)))))) |(refine LOps.ev tT_ok rfl ?_) |(refine kCallN 22 ?_;first |(refine LOps.ans (AnsL.callP rfl rfl rfl (ok22) (hC _)) ?_)) |(refine kCallN 7 ?_;first |(refine LOps.ans (AnsL.callP rfl rfl rfl (ok7) (hP _)) ?_))) |(refine kWL ?_;first |(refine WL.seq ?_) |(refine WL.region (by kernel_rfl) ?_) |(refine WL.ret ?_) |(refine kCond ?_;first |(refine WL.condT rfl ?_))) |(refine lthen_n ?_) |(refine lthen_r ?_) |(refine LPost.r1 (r := .tmp 4) (.inl rfl) (Res1.tmp rfl) ?_)
     exact ⟨[],.emp,List.nodup_nil⟩
   · have hk2 : k ≥ 0 := by omega
     refine LCalls.body Try.func9 rfl (by kernel_rfl) ?_
     repeat' first |(refine kOps ?_;first |(refine LOps.nil ?_) |(refine kG ?_;first |(refine LOps.gT rfl rfl rfl ?_) |(refine LOps.gD false rfl rfl rfl ?_ ?_;(focus (first |(exact decide_eq_false (by assumption)))))) |(refine LOps.ev tT_ok rfl ?_) |(refine kLen ?_;first |(refine LOps.ans (AnsL.lenS tT_ok rfl rfl rfl rfl) ?_)) |(refine kCallN 22 ?_;first |(refine LOps.ans (AnsL.callP rfl rfl rfl (ok22) (hC _)) ?_)) |(refine kCallN 7 ?_;first |(refine LOps.ans (AnsL.callP rfl rfl rfl (ok7) (hP _)) ?_))) |(refine kWL ?_;first |(refine WL.seq ?_) |(refine WL.region (by kernel_rfl) ?_) |(refine WL.ret ?_) |(refine kCond ?_;first |(refine WL.condT' rfl ?_ ?_;(focus (first |(exact decide_eq_true (by assumption))))))) |(refine lthen_n ?_) |(refine lthen_r ?_) |(refine LPost.r1 (r := .tmp 4) (.inl rfl) (Res1.tmp rfl) ?_)
     exact ⟨[],.emp,List.nodup_nil⟩
 refine VCalls.trimT ?_
 have hh:Hold s s.next [] := .start _ _
 by_cases hk:0≤k∧k<((pairs l).length:Int)
 · obtain ⟨q, rfl⟩ : ∃ q : Nat, k = (q : Int) := ⟨k.toNat, by omega⟩
   have hq:q<(pairs l).length:=by omega
   obtain ⟨a,b,e,hab,hbl⟩:=pairs_bnd hq
   have hg:((pairs l).map pairV)[q]?=some (.sl 0 [.int .i64 (a:Int),.int .i64 (b:Int)]):=by simp [hq,e,pairV]
   rw [wP_in hq e, ← cutP_erase hab hbl]
   have hk0:¬ (q:Int)<0:=by omega
   have hk1:¬ (q:Int)≥((pairs l).length:Int):=by omega
   have hlb:l.length<4611686018427387904:=by omega
   have hea:a<(l.eraseIdx b).length:=by rw [List.length_eraseIdx_of_lt hbl];omega
   have hel:(l.eraseIdx b).length=l.length - 1:=List.length_eraseIdx_of_lt hbl
   have hel2:((l.eraseIdx b).eraseIdx a).length=l.length - 1 - 1:=by rw [List.length_eraseIdx_of_lt hea,hel]
   have hlb2:l.length - 1<4611686018427387904:=by omega
   refine LCalls.body Try.func9 rfl (by kernel_rfl) ?_
   repeat' first |(refine kCallN 22 ?_ ;refine LOps.call rfl rfl (appO_nil _) ok22 (cloneTok_c l hne hl hh) (fun v t hv=>?_) ;obtain ⟨s,c,lv,rest,rfl,rfl,hc,hr,hh⟩:=hv) |(refine kCallN 23 ?_ ;refine LOps.call rfl rfl (appO_nil _) ok23 (delete_c l hbl rfl hlb hc hr hh) (fun v t hv=>?_) ;obtain ⟨s,rest2,rfl,rfl,hr2,hh⟩:=hv) |(refine kCallN 23 ?_ ;refine LOps.call rfl rfl (appO_nil _) ok23 (delete_c (l.eraseIdx b) hea hel hlb2 (by omega) hr2 hh) (fun v t hv=>?_) ;obtain ⟨s,rest3,rfl,rfl,hr3,hh⟩:=hv) |(refine kOps ?_;first |(refine LOps.nil ?_) |(refine kG ?_;first |(refine LOps.gT rfl rfl rfl ?_)) |(refine LOps.ev tT_ok rfl ?_) |(refine kLen ?_;first |(refine LOps.ans (AnsL.lenM tT_ok rfl rfl rfl) ?_)) |(refine kCallN 7 ?_;first |(refine LOps.ans (AnsL.callP rfl rfl rfl (ok7) (hP _)) ?_))) |(refine kWL ?_;first |(refine WL.seq ?_) |(refine WL.region (by kernel_rfl) ?_) |(refine WL.drawn (id:=5) [0,1,2,3,4,5,6,7,8,9,10,11,12,13,14,15] [14,15] [[],[],[],[1,2],[1,2,3],[1,2,3,4],[1,2,3,4,5],[],[],[7,8],[7,8,9],[7,8,9,10],[7,8,9,10,11],[7,8,9,10,11,12],[0,1,2,3,4,5,6,7,8,9,10,11,12,13],[0,1,2,3,4,5,6,7,8,9,10,11,12,13,14]] (by kernel_rfl) (by kernel_rfl) ?_) |(refine WL.drawn (id:=6) [0,1,2,3,4,5,6,7,8,9,10,11,12,13,14,15] [14] [[],[],[],[1,2],[1,2,3],[1,2,3,4],[1,2,3,4,5],[],[],[7,8],[7,8,9],[7,8,9,10],[7,8,9,10,11],[7,8,9,10,11,12],[0,1,2,3,4,5,6,7,8,9,10,11,12,13],[0,1,2,3,4,5,6,7,8,9,10,11,12,13,14]] (by kernel_rfl) (by kernel_rfl) ?_) |(refine WL.skip ?_) |(refine WL.ret ?_) |(refine kCond ?_;first |(refine WL.condF' rfl ?_ ?_;(focus (first |(exact decide_eq_false (by assumption))))))) |(refine kDr ?_;first |(refine LDr.nil ?_) |(refine LDr.fl rfl rfl (.ev tT_ok rfl) ?_) |(refine kDBin rfl ?_;first |(refine LDr.fl rfl rfl (AnsL.add rfl rfl ?_) ?_;(focus (constructor <;> omega)))) |(refine kDIdx rfl ?_;first |(refine LDr.fl rfl rfl (AnsL.idx tT_ok rfl rfl rfl rfl rfl hg rfl rfl) ?_) |(refine LDr.fl rfl rfl (AnsL.idxZ tT_ok rfl rfl rfl rfl rfl ?_ rfl rfl rfl) ?_;(focus (decide)))) |(refine LDr.eff rfl rfl rfl ?_)) |(refine lthen_n ?_) |(refine LPost.r1 (r := .tmp 4) (.inl rfl) (Res1.tmp rfl) ?_) |(refine And.intro ?_ ?_) |(exact StsL.nil)
   exact ⟨s,c,lv,rest3,_,rfl,by rw [hel2],hh⟩
 · rw [wP_out hk]
   by_cases hk0:k<0
   · skip
     refine LCalls.body Try.func9 rfl (by kernel_rfl) ?_
     repeat' first |(refine kCallN 22 ?_ ;refine LOps.call rfl rfl (appO_nil _) ok22 (cloneTok_c l hne hl hh) (fun v t hv=>?_) ;obtain ⟨s,c,lv,rest,rfl,rfl,hc,hr,hh⟩:=hv) |(refine kOps ?_;first |(refine LOps.nil ?_) |(refine kG ?_;first |(refine LOps.gF rfl rfl rfl ?_) |(refine LOps.gD true rfl rfl rfl ?_ ?_;(focus (first |(exact decide_eq_true (by assumption)))))) |(refine LOps.ev tT_ok rfl ?_) |(refine kCallN 7 ?_;first |(refine LOps.ans (AnsL.callP rfl rfl rfl (ok7) (hP _)) ?_))) |(refine kWL ?_;first |(refine WL.seq ?_) |(refine WL.region (by kernel_rfl) ?_) |(refine WL.ret ?_) |(refine kCond ?_;first |(refine WL.condT rfl ?_))) |(refine lthen_n ?_) |(refine lthen_r ?_) |(refine LPost.r1 (r := .tmp 4) (.inl rfl) (Res1.tmp rfl) ?_)
     exact ⟨s,c,lv,rest,_,rfl,rfl,hh⟩
   · have hk1 : k ≥ ((pairs l).length : Int) := by omega
     refine LCalls.body Try.func9 rfl (by kernel_rfl) ?_
     repeat' first |(refine kCallN 22 ?_ ;refine LOps.call rfl rfl (appO_nil _) ok22 (cloneTok_c l hne hl hh) (fun v t hv=>?_) ;obtain ⟨s,c,lv,rest,rfl,rfl,hc,hr,hh⟩:=hv) |(refine kOps ?_;first |(refine LOps.nil ?_) |(refine kG ?_;first |(refine LOps.gT rfl rfl rfl ?_) |(refine LOps.gD false rfl rfl rfl ?_ ?_;(focus (first |(exact decide_eq_false (by assumption)))))) |(refine LOps.ev tT_ok rfl ?_) |(refine kLen ?_;first |(refine LOps.ans (AnsL.lenM tT_ok rfl rfl rfl) ?_)) |(refine kCallN 7 ?_;first |(refine LOps.ans (AnsL.callP rfl rfl rfl (ok7) (hP _)) ?_))) |(refine kWL ?_;first |(refine WL.seq ?_) |(refine WL.region (by kernel_rfl) ?_) |(refine WL.ret ?_) |(refine kCond ?_;first |(refine WL.condT' rfl ?_ ?_;(focus (first |(exact decide_eq_true (by assumption))))))) |(refine lthen_n ?_) |(refine lthen_r ?_) |(refine LPost.r1 (r := .tmp 4) (.inl rfl) (Res1.tmp rfl) ?_)
     exact ⟨s,c,lv,rest,_,rfl,rfl,hh⟩
end Go.Proofs.Ytikghanejpigjaa

namespace Go.Proofs.Ytikghanejpigjaa
open Go
@[simp] theorem setFam_setFam (t:S) (id a b c d:Nat):(t.setFam id a b).setFam id c d=t.setFam id c d:=by
 refine S.ext_eq (fun _=>rfl) (fun x=>?_) rfl
 simp only [S.setFam]
 by_cases h:x=id <;> simp [h]
theorem ext_setFam_lt {t:S} {id:Nat} (h:id<t.next) (xs:List Own) (n sz:Nat):(t.ext xs).setFam id n sz=(t.setFam id n sz).ext xs:=by
 refine S.ext_eq (fun _=>rfl) (fun x=>?_) rfl
 simp only [S.setFam,S.ext]
 by_cases h1:x=id
 · simp [h1,h]
 · simp [h1]
@[simp] theorem setFam_next (t:S) (id n sz:Nat):(t.setFam id n sz).next=t.next:=rfl
@[simp] theorem setFam_vars (t:S) (id n sz l:Nat):(t.setFam id n sz).vars l=t.vars l:=rfl
section
variable {P:Program} {N:Nat} {ops:Array Oper} {l:List Oper} {K:Kn→S→Prop} {L:Kn} {t:S} {xs:List Own} {tt:BT} {d:Nat} {ty:TypeId} {p:String} {a:Array Edge}
theorem LOps.appO (ht:tt.ok P) {T U e:TypeId} {u te:Ty} {x y:Operand} {id n sz:Nat} {us vs:List V} {w:V} (hx:opd L x=some (.sl id us)) (hlt:id<t.next) (hy:opd L y=some w) (hw:spreadO w=some vs)
   (hT:tt.get T=some u) (hkd:u.kd = .slice e) (hte:tt.get e=some te) (hz:(Nat.beq te.zero.length te.size&&Nat.blt 0 te.size)=true) (hm:Nat.beq sz te.size=true) (hU:Nat.beq U T=true) (hn:n=us.length) (hall:Elems te vs) (hb:AppB (us.length+vs.length) te.bytes)
   (hk:LOps P N ops l K ((d,.sl id (us++vs))::L) ((t.setFam id (us.length+vs.length) sz).ext xs)):LOps P N ops (⟨some d,appCall x y #[T,U],ty,p,a,none⟩::l) K L ((t.setFam id n sz).ext xs):=by
 simp only [Bool.and_eq_true] at hz
 have hU':=Nat.eq_of_beq_eq_true hU
 subst hU'
 subst hn
 have hm':=Nat.eq_of_beq_eq_true hm
 subst hm'
 refine .st (fun σ hσ => ?_) hk
 have hf:((t.setFam id us.length te.size).ext xs).fams id=some (us.length,te.size):=by rw [ext_fams_lt _ _ (by simpa using hlt)];simp [S.setFam]
 simp only [appCall,vop,vevL,opd_eq hσ hx,opd_eq hσ hy,vbuiltin,vappend,ht.get hT,hkd,ht.get hte,spreadO_eq hw,Option.bind_some,Option.map_some,if_true]
 rw [if_pos ⟨Nat.eq_of_beq_eq_true hz.1,by simpa using hz.2,hall⟩,hf]
 simp only [Option.bind_some]
 rw [if_pos ⟨trivial,trivial,hb.1,hb.2⟩,ext_setFam_lt (by simpa using hlt),setFam_setFam]
end
end Go.Proofs.Ytikghanejpigjaa
