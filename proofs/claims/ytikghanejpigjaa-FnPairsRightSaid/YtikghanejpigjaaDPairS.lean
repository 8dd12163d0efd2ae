/-
 Pairs of parentheses: what the reference's PairsOf answers. Own work; no condition.
-/
import Derived.Test.YtikghanejpigjaaDPairP
import Derived.Test.YtikghanejpigjaaMg10
import Derived.Test.YtikghanejpigjaaVSort
import Derived.Test.YtikghanejpigjaaMg18
namespace Go.Proofs.Ytikghanejpigjaa
open Go
set_option linter.unusedSimpArgs false
set_option linter.unusedVariables false
@[simp] theorem datL_pairs:∀ xs:List (Int × Int),V.datL (xs.map pairV)=true
 | []=>rfl
 | x::xs=>by simp only [List.map_cons,V.datL,datL_pairs xs,Bool.and_true];rfl
@[simp] theorem dat_pairs (xs:List (Int × Int)):V.dat (.sl 0 (xs.map pairV))=true:=datL_pairs xs
@[simp] theorem underL_pairs (n:Nat):∀ xs:List (Int × Int),V.underL n (xs.map pairV)=true
 | []=>by simp [V.underL]
 | x::xs=>by simp [V.underL,V.under,pairV,underL_pairs n xs]
theorem specl14Is_v (t:Token) (c:List UInt8) (s:S):VCalls Try.prog 20 [t.toV,.str c] s (fun v s'=>v = .bool (decide (t.kind=5)&&decide (t.text=c))∧s'=s):=by
 refine LCalls.pure Try.func20 rfl (by kernel_rfl) (by simp) ?_
 by_cases h:t.kind=5
 · skip
   repeat' first |(refine kOps ?_;first |(refine LOps.nil ?_) |(refine kG ?_;first |(refine LOps.gT rfl rfl rfl ?_) |(refine LOps.gD true rfl rfl rfl ?_ ?_;(focus (first |(exact decide_eq_true (by assumption)))))) |(refine LOps.ev tT_ok rfl ?_) |(refine kBox ?_;refine LOps.box rfl rfl rfl rfl ?_) |(refine kLoad ?_;first |(refine LOps.ans (AnsL.loadP tT_ok rfl rfl rfl rfl) ?_))) |(refine kWL ?_;first |(refine WL.seq ?_) |(refine WL.region (by kernel_rfl) ?_) |(refine WL.ret ?_)) |(refine lthen_n ?_) |(refine LPost.r1 (r := .tmp 4) (.inl rfl) (Res1.tmp rfl) ?_) |(refine PureR.mk ?_)
   simp [h,V.forget]
 · skip
   repeat' first |(refine kOps ?_;first |(refine LOps.nil ?_) |(refine kG ?_;first |(refine LOps.gF rfl rfl rfl ?_) |(refine LOps.gD false rfl rfl rfl ?_ ?_;(focus (first |(exact decide_eq_false (by assumption)))))) |(refine LOps.ev tT_ok rfl ?_) |(refine kBox ?_;refine LOps.box rfl rfl rfl rfl ?_) |(refine kLoad ?_;first |(refine LOps.ans (AnsL.loadP tT_ok rfl rfl rfl rfl) ?_))) |(refine kWL ?_;first |(refine WL.seq ?_) |(refine WL.region (by kernel_rfl) ?_) |(refine WL.ret ?_)) |(refine lthen_n ?_) |(refine LPost.r1 (r := .tmp 4) (.inl rfl) (Res1.tmp rfl) ?_) |(refine PureR.mk ?_)
   simp [h,V.forget]
theorem specl14Shut_v (l:List Token) (p:Nat) (hl:l.length≤1048576) (hp:p<l.length) (ho:openP l p=true) (s:S):VCalls Try.prog 21 [.sl 0 (l.map Token.toV),.int .i64 p] s (fun v s'=>v = .int .i64 (match shutP l p with | some j=>(j:Int) | none => -1)∧s'=s):=by
 refine LCalls.pure Try.func21 rfl (by kernel_rfl) (by simp) ?_
 repeat' first |(refine kOps ?_;first |(refine LOps.nil ?_) |(refine LOps.ev tT_ok rfl ?_)) |(refine kWL ?_;first |(refine WL.seq ?_) |(refine WL.region (by kernel_rfl) ?_) |(refine WL.block ?_)) |(refine lthen_n ?_)
 refine WL.loopD (fun x:Nat × Nat=>l.length - x.1) (fun x=>[(0,.sl 0 (l.map Token.toV)),(5,.int .i64 (x.2:Int)),(6,.int .i64 (x.1:Int))]) (fun _=>[])
   (fun x=>x.1≤l.length∧x.2≤x.1∧shutP l p=scanP x.2 x.1 (l.drop x.1)∧(x.2=0→∀ h:x.1<l.length,isSign l[x.1] 40=true)) 0 (p,0) ⟨by dsimp only;omega,Nat.zero_le _,?_,?_⟩ (fun _=>rfl) ⟨rfl,rfl,rfl,trivial⟩ rfl (fun x hx=>?_) (fun x hx=>?_)
 · rw [openP_at hp] at ho
   dsimp only
   rw [drop_at hp]
   show _=(if isSign l[p] 40=true then _ else _)
   rw [if_pos ho];rfl
 · intro _ h
   rw [openP_at hp] at ho
   exact ho
 · simp [UnderK,UnderX,V.under,V.underL]
 obtain ⟨i,d⟩:=x
 obtain ⟨hx1,hx2,hx3,hx4⟩:=hx
 dsimp only at hx1 hx2 hx3 hx4 ⊢
 rcases Nat.lt_or_ge i l.length with hlt | hge
 · have hg : (l.map Token.toV)[i]? = some l[i].toV := by simp [hlt]
   have h4:=fun h=>hx4 h hlt
   rw [drop_at hlt] at hx3
   have hA:=fun t=>specl14Is_v l[i] [40] t
   have hB:=fun t=>specl14Is_v l[i] [41] t
   change ∀ t,VCalls _ _ _ t (fun v s'=>v = .bool (isSign l[i] 40)∧s'=t) at hA
   change ∀ t,VCalls _ _ _ t (fun v s'=>v = .bool (isSign l[i] 41)∧s'=t) at hB
   have hs:scanP d i (l[i]::l.drop (i+1))=if isSign l[i] 40=true then scanP (d+1) (i+1) (l.drop (i+1)) else if isSign l[i] 41=true then (if d=1 then some i else scanP (d - 1) (i+1) (l.drop (i+1))) else scanP d (i+1) (l.drop (i+1)):=rfl
   rw [hs] at hx3
   clear hs
   cases h40:isSign l[i] 40
   · have hd0 : d ≠ 0 := fun e => by rw [h4 e] at h40; cases h40
     rw [h40] at hA hx3
     simp only [Bool.false_eq_true,if_false] at hx3
     cases h41:isSign l[i] 41
     · rw [h41] at hB hx3
       simp only [Bool.false_eq_true,if_false] at hx3
       clear hx4 h4 h40 h41
       generalize l[i]=t at hg hA hB
       repeat' first |(refine kOps ?_;first |(refine LOps.nil ?_) |(refine LOps.ev tT_ok rfl ?_) |(refine kLen ?_;first |(refine LOps.ans (AnsL.lenM tT_ok rfl rfl rfl) ?_)) |(refine kBin ?_;first |(refine LOps.ans (AnsL.add rfl rfl ?_) ?_;(focus (constructor <;> omega)))) |(refine kIdx ?_;first |(refine LOps.ans (AnsL.idx tT_ok rfl rfl rfl rfl rfl hg rfl rfl) ?_)) |(refine kCallN 20 ?_;first |(refine LOps.ans (AnsL.callP rfl rfl rfl (ok20) (hA _)) ?_) |(refine LOps.ans (AnsL.callP rfl rfl rfl (ok20) (hB _)) ?_))) |(refine kWL ?_;first |(refine WL.seq ?_) |(refine WL.region (by kernel_rfl) ?_) |(refine WL.block ?_) |(refine WL.skip ?_) |(refine kCond ?_;first |(refine WL.condF rfl ?_) |(refine WL.condT' rfl ?_ ?_;(focus (first |(simp <;> omega)))))) |(refine lthen_n ?_) |(refine lblock_n ?_)
       refine lbackD.of (i+1,d) ⟨by dsimp only;omega,by dsimp only;omega,hx3,fun e=>absurd e hd0⟩ (by dsimp only;omega) ⟨rfl,rfl,rfl,trivial⟩ rfl
     · rw [h41] at hB hx3
       simp only [if_true] at hx3
       clear hx4 h4 h40 h41
       generalize l[i]=t at hg hA hB
       by_cases hd1:d=1
       · subst hd1
         rw [if_pos rfl] at hx3
         rw [hx3]
         repeat' first |(refine kOps ?_;first |(refine LOps.nil ?_) |(refine LOps.ev tT_ok rfl ?_) |(refine kLen ?_;first |(refine LOps.ans (AnsL.lenM tT_ok rfl rfl rfl) ?_)) |(refine kBin ?_;first |(refine LOps.ans (AnsL.sub rfl rfl ?_) ?_;(focus (constructor <;> omega)))) |(refine kIdx ?_;first |(refine LOps.ans (AnsL.idx tT_ok rfl rfl rfl rfl rfl hg rfl rfl) ?_)) |(refine kCallN 20 ?_;first |(refine LOps.ans (AnsL.callP rfl rfl rfl (ok20) (hA _)) ?_) |(refine LOps.ans (AnsL.callP rfl rfl rfl (ok20) (hB _)) ?_))) |(refine kWL ?_;first |(refine WL.seq ?_) |(refine WL.region (by kernel_rfl) ?_) |(refine WL.block ?_) |(refine WL.skip ?_) |(refine WL.ret ?_) |(refine kCond ?_;first |(refine WL.condT rfl ?_) |(refine WL.condF rfl ?_) |(refine WL.condT' rfl ?_ ?_;(focus (first |(simp <;> omega)))))) |(refine lthen_n ?_) |(refine lthen_r ?_) |(refine lblock_r ?_) |(refine lbackD_r ?_) |(refine LPost.r1 (r := .tmp 4) (.inl rfl) (Res1.tmp rfl) ?_) |(refine PureR.mk ?_)
         rfl
       · rw [if_neg hd1] at hx3
         obtain ⟨d',rfl⟩:∃ d',d=d'+1:=⟨d - 1,by omega⟩
         have hz:¬ ((d'+1:Nat):Int) - 1=0:=by omega
         repeat' first |(refine kOps ?_;first |(refine LOps.nil ?_) |(refine LOps.ev tT_ok rfl ?_) |(refine kLen ?_;first |(refine LOps.ans (AnsL.lenM tT_ok rfl rfl rfl) ?_)) |(refine kBin ?_;first |(refine LOps.ans (AnsL.add rfl rfl ?_) ?_;(focus (constructor <;> omega))) |(refine LOps.ans (AnsL.sub rfl rfl ?_) ?_;(focus (constructor <;> omega)))) |(refine kIdx ?_;first |(refine LOps.ans (AnsL.idx tT_ok rfl rfl rfl rfl rfl hg rfl rfl) ?_)) |(refine kCallN 20 ?_;first |(refine LOps.ans (AnsL.callP rfl rfl rfl (ok20) (hA _)) ?_) |(refine LOps.ans (AnsL.callP rfl rfl rfl (ok20) (hB _)) ?_))) |(refine kWL ?_;first |(refine WL.seq ?_) |(refine WL.region (by kernel_rfl) ?_) |(refine WL.block ?_) |(refine WL.skip ?_) |(refine kCond ?_;first |(refine WL.condT rfl ?_) |(refine WL.condF rfl ?_) |(refine WL.condT' rfl ?_ ?_;(focus (first |(simp <;> omega)))) |(refine WL.condF' rfl ?_ ?_;(focus (first |(exact decide_eq_false (by assumption))))))) |(refine lthen_n ?_) |(refine lblock_n ?_)
         refine lbackD.of (i+1,d') ⟨by dsimp only;omega,by dsimp only;omega,hx3,fun e=>absurd e (by dsimp only;omega)⟩ (by dsimp only;omega) ⟨rfl,?_,rfl,trivial⟩ rfl
         show some (V.int .i64 (((d'+1:Nat):Int) - 1))=some (V.int .i64 (d':Int))
         congr 2;omega
   · have h41 := not_both h40
     rw [h40] at hA hx3
     rw [h41] at hB
     simp only [if_true] at hx3
     clear hx4 h4 h40 h41
     generalize l[i]=t at hg hA hB
     repeat' first |(refine kOps ?_;first |(refine LOps.nil ?_) |(refine LOps.ev tT_ok rfl ?_) |(refine kLen ?_;first |(refine LOps.ans (AnsL.lenM tT_ok rfl rfl rfl) ?_)) |(refine kBin ?_;first |(refine LOps.ans (AnsL.add rfl rfl ?_) ?_;(focus (constructor <;> omega)))) |(refine kIdx ?_;first |(refine LOps.ans (AnsL.idx tT_ok rfl rfl rfl rfl rfl hg rfl rfl) ?_)) |(refine kCallN 20 ?_;first |(refine LOps.ans (AnsL.callP rfl rfl rfl (ok20) (hA _)) ?_) |(refine LOps.ans (AnsL.callP rfl rfl rfl (ok20) (hB _)) ?_))) |(refine kWL ?_;first |(refine WL.seq ?_) |(refine WL.region (by kernel_rfl) ?_) |(refine WL.block ?_) |(refine WL.skip ?_) |(refine kCond ?_;first |(refine WL.condT rfl ?_) |(refine WL.condF rfl ?_) |(refine WL.condT' rfl ?_ ?_;(focus (first |(simp <;> omega)))))) |(refine lthen_n ?_) |(refine lblock_n ?_)
     refine lbackD.of (i+1,d+1) ⟨by dsimp only;omega,by dsimp only;omega,hx3,fun e=>absurd e (by dsimp only;omega)⟩ (by dsimp only;omega) ⟨rfl,rfl,rfl,trivial⟩ rfl
 · rw [hx3, List.drop_of_length_le hge]
   repeat' first |(refine kOps ?_;first |(refine LOps.nil ?_) |(refine LOps.ev tT_ok rfl ?_) |(refine kLen ?_;first |(refine LOps.ans (AnsL.lenM tT_ok rfl rfl rfl) ?_))) |(refine kWL ?_;first |(refine WL.seq ?_) |(refine WL.region (by kernel_rfl) ?_) |(refine WL.exit ?_) |(refine WL.ret ?_) |(refine kCond ?_;first |(refine WL.condF' rfl ?_ ?_;(focus (first |(simp <;> omega)))))) |(refine lthen_n ?_) |(refine lthen_e ?_) |(refine lblock_e ?_) |(refine lbackD_e ?_) |(refine LPost.r1 (r := .tmp 4) (.inl rfl) (Res1.tmp rfl) ?_) |(refine PureR.mk ?_)
   rfl
end Go.Proofs.Ytikghanejpigjaa
