/-
 Pairs of parentheses: the reference's PairsOf, walked: its answer in new memory; and the law. Own work; no condition.
-/
import Derived.Test.YtikghanejpigjaaDPairW
import Derived.Test.YtikghanejpigjaaMg24
namespace Go.Proofs.Ytikghanejpigjaa
open Go
set_option linter.unusedSimpArgs false
set_option linter.unusedVariables false
structure PSp where
 i:Nat
 outs:List (Int × Int)
 oc:Nat
 ol:Nat
set_option maxHeartbeats 4000000 in
theorem specPairsOf_o (l:List Token) (hl:l.length≤1048576) (s:S):VCalls Try.prog 8 [.sl 0 (l.map Token.toV)] s (fun v t=>Own2 (.sl 0 ((pairs l).map pairV)) v t):=by
 refine VCalls.trimP ?_
 have hh:Hold s s.next [] := .start _ _
 refine LCalls.body Try.func8 rfl (by kernel_rfl) ?_
 repeat' first |(refine kBsl ?_ ;first |(refine LOps.ans (AnsL.bslN tT_ok rfl rfl rfl rfl rfl) ?_)) |(refine kOps ?_;first |(refine LOps.nil ?_) |(refine LOps.ev tT_ok rfl ?_)) |(refine kWL ?_;first |(refine WL.seq ?_) |(refine WL.region (by kernel_rfl) ?_) |(refine WL.block ?_)) |(refine lthen_n ?_)
 replace hh:=hh.nil0
 refine WL.loopH (fun x:PSp=>l.length - x.i) (fun x=>[(0,.sl 0 (l.map Token.toV)),(3,.slm (.is x.oc) x.ol 0 x.outs.length),(4,.int .i64 (x.i:Int))])
   (fun x => .own (.slm (.is x.oc) x.ol 0 x.outs.length) (.sl 0 (x.outs.map pairV))::[])
   (fun x=>x.i≤l.length∧x.outs=(List.range x.i).filterMap (pairAt l)) ⟨0,[],0,0⟩ ⟨Nat.zero_le _,rfl⟩ ⟨rfl,rfl,rfl,trivial⟩ hh (Sel.refl _) (fun x s hI hh=>?_)
 obtain ⟨i,outs,oc,ol⟩:=x
 obtain ⟨hi,hI⟩:=hI
 dsimp only at hi hI hh ⊢
 have hol:outs.length≤i:=by rw [hI];exact Nat.le_trans (List.length_filterMap_le _ _) (by simp)
 rcases Nat.lt_or_ge i l.length with hlt | hge
 · have hg : (l.map Token.toV)[i]? = some l[i].toV := by simp [hlt]
   have hA:=fun t=>specl14Is_v l[i] [40] t
   change ∀ t,VCalls _ _ _ t (fun v s'=>v = .bool (isSign l[i] 40)∧s'=t) at hA
   have hrg:=range_fm l i
   cases h40:isSign l[i] 40
   · have hpa := pairAt_none hlt h40
     rw [h40] at hA
     generalize l[i]=t at hg hA
     repeat' first |(refine kOps ?_;first |(refine LOps.nil ?_) |(refine LOps.ev tT_ok rfl ?_) |(refine kLen ?_;first |(refine LOps.ans (AnsL.lenM tT_ok rfl rfl rfl) ?_)) |(refine kBin ?_;first |(refine LOps.ans (AnsL.add rfl rfl ?_) ?_;(focus (constructor <;> omega)))) |(refine kIdx ?_;first |(refine LOps.ans (AnsL.idx tT_ok rfl rfl rfl rfl rfl hg rfl rfl) ?_)) |(refine kCallN 20 ?_;first |(refine LOps.ans (AnsL.callP rfl rfl rfl (ok20) (hA _)) ?_))) |(refine kWL ?_;first |(refine WL.seq ?_) |(refine WL.region (by kernel_rfl) ?_) |(refine WL.block ?_) |(refine WL.exit ?_) |(refine WL.skip ?_) |(refine kCond ?_;first |(refine WL.condT rfl ?_) |(refine WL.condT' rfl ?_ ?_;(focus (first |(simp <;> omega)))))) |(refine lthen_n ?_) |(refine lthen_e ?_) |(refine lblock_e ?_)
     exact lbackH.of ⟨i+1,outs,oc,ol⟩ ⟨rfl,rfl,rfl,trivial⟩ hh (by (repeat' first |(exact Sel.nil) |(exact Sel.refl _) |(refine' Sel.p ?_ ?_;rotate_left 1;(focus (((repeat' first |(exact Pick.here) |(refine' Pick.there ?_));done)))))) ⟨hlt,by dsimp only;rw [hrg,hpa,hI];simp only [Option.toList_none,List.append_nil]⟩ (by dsimp only;omega)
   · rw [h40] at hA
     cases i with
     | zero =>
       have hky:keyAt l 0=false:=rfl
       generalize l[0]=t at hg hA
       have hS:=fun t=>specl14Shut_v l (0) hl hlt (by rw [openP_at hlt];exact h40) t
       have hpa:pairAt l (0)=(shutP l (0)).map fun j:Nat=>(((0:Nat):Int),(j:Int)):=by
         unfold pairAt
         rw [if_pos ⟨by rw [openP_at hlt];exact h40,hky⟩]
       cases hsh:shutP l (0) with
       | none =>
         rw [hsh] at hS hpa
         dsimp only [Option.map_none] at hS hpa
         repeat' first |(refine kOps ?_;first |(refine LOps.nil ?_) |(refine kG ?_;first |(refine LOps.gF rfl rfl rfl ?_) |(refine LOps.gU rfl rfl ?_)) |(refine LOps.ev tT_ok rfl ?_) |(refine kLen ?_;first |(refine LOps.ans (AnsL.lenM tT_ok rfl rfl rfl) ?_)) |(refine kBin ?_;first |(refine LOps.ans (AnsL.add rfl rfl ?_) ?_;(focus (constructor <;> omega)))) |(refine kIdx ?_;first |(refine LOps.ans (AnsL.idx tT_ok rfl rfl rfl rfl rfl hg rfl rfl) ?_)) |(refine kCallN 20 ?_;first |(refine LOps.ans (AnsL.callP rfl rfl rfl (ok20) (hA _)) ?_)) |(refine kCallN 21 ?_;first |(refine LOps.ans (AnsL.callP rfl rfl rfl (ok21) (hS _)) ?_))) |(refine kWL ?_;first |(refine WL.seq ?_) |(refine WL.region (by kernel_rfl) ?_) |(refine WL.block ?_) |(refine WL.skip ?_) |(refine kCond ?_;first |(refine WL.condF rfl ?_) |(refine WL.condT' rfl ?_ ?_;(focus (first |(simp <;> omega)))))) |(refine lthen_n ?_) |(refine lblock_n ?_)
         exact lbackH.of ⟨0+1,outs,oc,ol⟩ ⟨rfl,rfl,rfl,trivial⟩ hh (by (repeat' first |(exact Sel.nil) |(exact Sel.refl _) |(refine' Sel.p ?_ ?_;rotate_left 1;(focus (((repeat' first |(exact Pick.here) |(refine' Pick.there ?_));done)))))) ⟨hlt,by dsimp only;rw [hrg,hpa,hI];simp only [Option.toList_none,List.append_nil]⟩ (by dsimp only;omega)
       | some j =>
         rw [hsh] at hS hpa
         dsimp only [Option.map_some] at hS hpa
         have hj0:¬ (j:Int)<0:=by omega
         repeat' first |(refine kBsl ?_ ;first |(refine' LOps.bslO (d:=56) tT_ok rfl rfl rfl rfl rfl rfl rfl rfl hh ?_ ?_ ?_ ;rotate_left 2 ;(focus ((repeat' first |(exact ConsOL.nil) |(exact ConsO.scal rfl) |(refine' ConsOL.cons ?_ ?_));done)) ;(focus ((repeat' first |(exact ElsH.of rfl));done)) ;intro s n hh) |(refine LOps.ans (AnsL.bslE tT_ok rfl rfl rfl rfl rfl rfl rfl rfl ?_) ?_ ;(focus ((repeat' first |(exact ElsH.of rfl));done)))) |(refine kApp ?_ ;first |(refine' LOps.appW tT_ok 1 rfl rfl rfl rfl rfl rfl rfl rfl rfl rfl hh ?_ ?_ ?_ (AppB.of ?_ rfl) ?_ ;rotate_left 2 ;(focus (first |(intro x hx;obtain ⟨y,_,rfl⟩:=List.mem_map.1 hx;first | rfl | exact PE.cells_len _ | exact PE.planV_len _ | exact EE.cells_len _ | exact EE.queryV_len _))) ;(focus ((repeat' first |(exact ConsOL.nil) |(refine' ConsO.op ?_;((repeat' first |(exact Pick.here));done)) |(refine' ConsOL.cons ?_ ?_));done)) ;(focus ((repeat' first |(exact Elems.of rfl));done)) ;(focus (first | omega |(simp ;omega))) ;intro s c n hh)) |(refine kOps ?_;first |(refine LOps.nil ?_) |(refine kG ?_;first |(refine LOps.gF rfl rfl rfl ?_) |(refine LOps.gU rfl rfl ?_)) |(refine LOps.ev tT_ok rfl ?_) |(refine kLen ?_;first |(refine LOps.ans (AnsL.lenM tT_ok rfl rfl rfl) ?_)) |(refine kBin ?_;first |(refine LOps.ans (AnsL.add rfl rfl ?_) ?_;(focus (constructor <;> omega)))) |(refine kIdx ?_;first |(refine LOps.ans (AnsL.idx tT_ok rfl rfl rfl rfl rfl hg rfl rfl) ?_)) |(refine kCallN 20 ?_;first |(refine LOps.ans (AnsL.callP rfl rfl rfl (ok20) (hA _)) ?_)) |(refine kCallN 21 ?_;first |(refine LOps.ans (AnsL.callP rfl rfl rfl (ok21) (hS _)) ?_))) |(refine kWL ?_;first |(refine WL.seq ?_) |(refine WL.region (by kernel_rfl) ?_) |(refine WL.block ?_) |(refine WL.skip ?_) |(refine kCond ?_;first |(refine WL.condT rfl ?_) |(refine WL.condF rfl ?_) |(refine WL.condT' rfl ?_ ?_;(focus (first |(simp <;> omega)))))) |(refine lthen_n ?_) |(refine lblock_n ?_)
         have hY:outs.map pairV++[V.sl 0 [.int .i64 ((0:Nat):Int),.int .i64 (j:Int)]]=(outs++[(((0:Nat):Int),(j:Int))]).map pairV:=by rw [List.map_append];rfl
         have hL:∀ v:V,(outs.map pairV).length+[v].length=(outs++[(((0:Nat):Int),(j:Int))]).length:=fun v=>by simp
         rw [hY,hL] at hh
         refine lbackH.of ⟨0+1,outs++[(((0:Nat):Int),(j:Int))],c,n⟩ ⟨rfl,?_,rfl,trivial⟩ hh (Sel.refl _) ⟨hlt,by dsimp only;rw [hrg,hpa,hI];rfl⟩ (by dsimp only;omega)
         exact congrArg (fun k=>some (V.slm (.is c) n 0 k)) (hL _)
     | succ q =>
       have hq:q<l.length:=by omega
       have hkq:keyAt l (q+1)=keyTok l[q]:=by simp [keyAt,hq]
       have hgq:(l.map Token.toV)[(((q+1:Nat):Int) - 1).toNat]?=some l[q].toV:=by
         rw [show (((q+1:Nat):Int) - 1).toNat=q by omega];simp [hq]
       have hq0:((q+1:Nat):Int)>0:=by omega
       generalize l[q+1]=t at hg hA
       unfold keyTok at hkq
       generalize l[q]=u at hgq hkq
       by_cases k1:u.kind=1
       · by_cases k2 : u.text = [73, 78]
         · have hky : keyAt l (q + 1) = true := by rw [hkq]; simp [k1, k2]
           have hpa:pairAt l (q+1)=none:=by
             unfold pairAt
             rw [if_neg (fun h=>by rw [hky] at h;exact absurd h.2 (by decide))]
           repeat' first |(refine kOps ?_;first |(refine LOps.nil ?_) |(refine kG ?_;first |(refine LOps.gT rfl rfl rfl ?_) |(refine LOps.gF rfl rfl rfl ?_) |(refine LOps.gD true rfl rfl rfl ?_ ?_;(focus (first |(exact decide_eq_true (by assumption)))))) |(refine LOps.ev tT_ok rfl ?_) |(refine kLen ?_;first |(refine LOps.ans (AnsL.lenM tT_ok rfl rfl rfl) ?_)) |(refine kBin ?_;first |(refine LOps.ans (AnsL.add rfl rfl ?_) ?_;(focus (constructor <;> omega))) |(refine LOps.ans (AnsL.sub rfl rfl ?_) ?_;(focus (constructor <;> omega)))) |(refine kIdx ?_;first |(refine LOps.ans (AnsL.idx tT_ok rfl rfl rfl rfl rfl hg rfl rfl) ?_) |(refine LOps.ans (AnsL.idxZ tT_ok rfl rfl rfl rfl rfl ?_ hgq rfl rfl) ?_;(focus (omega)))) |(refine kCallN 20 ?_;first |(refine LOps.ans (AnsL.callP rfl rfl rfl (ok20) (hA _)) ?_))) |(refine kWL ?_;first |(refine WL.seq ?_) |(refine WL.region (by kernel_rfl) ?_) |(refine WL.block ?_) |(refine WL.exit ?_) |(refine WL.skip ?_) |(refine kCond ?_;first |(refine WL.condT rfl ?_) |(refine WL.condF rfl ?_) |(refine WL.condT' rfl ?_ ?_;(focus (first |(simp <;> omega)))))) |(refine lthen_n ?_) |(refine lthen_e ?_) |(refine lblock_e ?_)
           exact lbackH.of ⟨q+1+1,outs,oc,ol⟩ ⟨rfl,rfl,rfl,trivial⟩ hh (by (repeat' first |(exact Sel.nil) |(exact Sel.refl _) |(refine' Sel.p ?_ ?_;rotate_left 1;(focus (((repeat' first |(exact Pick.here) |(refine' Pick.there ?_));done)))))) ⟨hlt,by dsimp only;rw [hrg,hpa,hI];simp only [Option.toList_none,List.append_nil]⟩ (by dsimp only;omega)
         · by_cases k3 : u.text = [69, 88, 73, 83, 84, 83]
           · have hky : keyAt l (q + 1) = true := by rw [hkq]; simp [k1, k3]
             have hpa:pairAt l (q+1)=none:=by
               unfold pairAt
               rw [if_neg (fun h=>by rw [hky] at h;exact absurd h.2 (by decide))]
             repeat' first |(refine kOps ?_;first |(refine LOps.nil ?_) |(refine kG ?_;first |(refine LOps.gT rfl rfl rfl ?_) |(refine LOps.gD true rfl rfl rfl ?_ ?_;(focus (first |(exact decide_eq_true (by assumption))))) |(refine LOps.gD false rfl rfl rfl ?_ ?_;(focus (first |(exact decide_eq_false (by assumption)))))) |(refine LOps.ev tT_ok rfl ?_) |(refine kLen ?_;first |(refine LOps.ans (AnsL.lenM tT_ok rfl rfl rfl) ?_)) |(refine kBin ?_;first |(refine LOps.ans (AnsL.add rfl rfl ?_) ?_;(focus (constructor <;> omega))) |(refine LOps.ans (AnsL.sub rfl rfl ?_) ?_;(focus (constructor <;> omega)))) |(refine kIdx ?_;first |(refine LOps.ans (AnsL.idx tT_ok rfl rfl rfl rfl rfl hg rfl rfl) ?_) |(refine LOps.ans (AnsL.idxZ tT_ok rfl rfl rfl rfl rfl ?_ hgq rfl rfl) ?_;(focus (omega)))) |(refine kCallN 20 ?_;first |(refine LOps.ans (AnsL.callP rfl rfl rfl (ok20) (hA _)) ?_))) |(refine kWL ?_;first |(refine WL.seq ?_) |(refine WL.region (by kernel_rfl) ?_) |(refine WL.block ?_) |(refine WL.exit ?_) |(refine WL.skip ?_) |(refine kCond ?_;first |(refine WL.condF rfl ?_) |(refine WL.condT' rfl ?_ ?_;(focus (first |(exact decide_eq_true (by assumption)) |(simp <;> omega)))))) |(refine lthen_n ?_) |(refine lthen_e ?_) |(refine lblock_e ?_)
             exact lbackH.of ⟨q+1+1,outs,oc,ol⟩ ⟨rfl,rfl,rfl,trivial⟩ hh (by (repeat' first |(exact Sel.nil) |(exact Sel.refl _) |(refine' Sel.p ?_ ?_;rotate_left 1;(focus (((repeat' first |(exact Pick.here) |(refine' Pick.there ?_));done)))))) ⟨hlt,by dsimp only;rw [hrg,hpa,hI];simp only [Option.toList_none,List.append_nil]⟩ (by dsimp only;omega)
           · have hky : keyAt l (q + 1) = false := by rw [hkq]; simp [k2, k3]
             have hS:=fun t=>specl14Shut_v l (q+1) hl hlt (by rw [openP_at hlt];exact h40) t
             have hpa:pairAt l (q+1)=(shutP l (q+1)).map fun j:Nat=>(((q+1:Nat):Int),(j:Int)):=by
               unfold pairAt
               rw [if_pos ⟨by rw [openP_at hlt];exact h40,hky⟩]
             cases hsh:shutP l (q+1) with
             | none =>
               rw [hsh] at hS hpa
               dsimp only [Option.map_none] at hS hpa
               repeat' first |(refine kOps ?_;first |(refine LOps.nil ?_) |(refine kG ?_;first |(refine LOps.gT rfl rfl rfl ?_) |(refine LOps.gD true rfl rfl rfl ?_ ?_;(focus (first |(exact decide_eq_true (by assumption))))) |(refine LOps.gD false rfl rfl rfl ?_ ?_;(focus (first |(exact decide_eq_false (by assumption)))))) |(refine LOps.ev tT_ok rfl ?_) |(refine kLen ?_;first |(refine LOps.ans (AnsL.lenM tT_ok rfl rfl rfl) ?_)) |(refine kBin ?_;first |(refine LOps.ans (AnsL.add rfl rfl ?_) ?_;(focus (constructor <;> omega))) |(refine LOps.ans (AnsL.sub rfl rfl ?_) ?_;(focus (constructor <;> omega)))) |(refine kIdx ?_;first |(refine LOps.ans (AnsL.idx tT_ok rfl rfl rfl rfl rfl hg rfl rfl) ?_) |(refine LOps.ans (AnsL.idxZ tT_ok rfl rfl rfl rfl rfl ?_ hgq rfl rfl) ?_;(focus (omega)))) |(refine kCallN 20 ?_;first |(refine LOps.ans (AnsL.callP rfl rfl rfl (ok20) (hA _)) ?_)) |(refine kCallN 21 ?_;first |(refine LOps.ans (AnsL.callP rfl rfl rfl (ok21) (hS _)) ?_))) |(refine kWL ?_;first |(refine WL.seq ?_) |(refine WL.region (by kernel_rfl) ?_) |(refine WL.block ?_) |(refine WL.skip ?_) |(refine kCond ?_;first |(refine WL.condF rfl ?_) |(refine WL.condT' rfl ?_ ?_;(focus (first |(simp <;> omega)))) |(refine WL.condF' rfl ?_ ?_;(focus (first |(exact decide_eq_false (by assumption))))))) |(refine lthen_n ?_) |(refine lblock_n ?_)
               exact lbackH.of ⟨q+1+1,outs,oc,ol⟩ ⟨rfl,rfl,rfl,trivial⟩ hh (by (repeat' first |(exact Sel.nil) |(exact Sel.refl _) |(refine' Sel.p ?_ ?_;rotate_left 1;(focus (((repeat' first |(exact Pick.here) |(refine' Pick.there ?_));done)))))) ⟨hlt,by dsimp only;rw [hrg,hpa,hI];simp only [Option.toList_none,List.append_nil]⟩ (by dsimp only;omega)
             | some j =>
               rw [hsh] at hS hpa
               dsimp only [Option.map_some] at hS hpa
               have hj0:¬ (j:Int)<0:=by omega
               repeat' first |(refine kBsl ?_ ;first |(refine' LOps.bslO (d:=56) tT_ok rfl rfl rfl rfl rfl rfl rfl rfl hh ?_ ?_ ?_ ;rotate_left 2 ;(focus ((repeat' first |(exact ConsOL.nil) |(exact ConsO.scal rfl) |(refine' ConsOL.cons ?_ ?_));done)) ;(focus ((repeat' first |(exact ElsH.of rfl));done)) ;intro s n hh) |(refine LOps.ans (AnsL.bslE tT_ok rfl rfl rfl rfl rfl rfl rfl rfl ?_) ?_ ;(focus ((repeat' first |(exact ElsH.of rfl));done)))) |(refine kApp ?_ ;first |(refine' LOps.appW tT_ok 1 rfl rfl rfl rfl rfl rfl rfl rfl rfl rfl hh ?_ ?_ ?_ (AppB.of ?_ rfl) ?_ ;rotate_left 2 ;(focus (first |(intro x hx;obtain ⟨y,_,rfl⟩:=List.mem_map.1 hx;first | rfl | exact PE.cells_len _ | exact PE.planV_len _ | exact EE.cells_len _ | exact EE.queryV_len _))) ;(focus ((repeat' first |(exact ConsOL.nil) |(refine' ConsO.op ?_;((repeat' first |(exact Pick.here));done)) |(refine' ConsOL.cons ?_ ?_));done)) ;(focus ((repeat' first |(exact Elems.of rfl));done)) ;(focus (first | omega |(simp ;omega))) ;intro s c n hh)) |(refine kOps ?_;first |(refine LOps.nil ?_) |(refine kG ?_;first |(refine LOps.gT rfl rfl rfl ?_) |(refine LOps.gD true rfl rfl rfl ?_ ?_;(focus (first |(exact decide_eq_true (by assumption))))) |(refine LOps.gD false rfl rfl rfl ?_ ?_;(focus (first |(exact decide_eq_false (by assumption)))))) |(refine LOps.ev tT_ok rfl ?_) |(refine kLen ?_;first |(refine LOps.ans (AnsL.lenM tT_ok rfl rfl rfl) ?_)) |(refine kBin ?_;first |(refine LOps.ans (AnsL.add rfl rfl ?_) ?_;(focus (constructor <;> omega))) |(refine LOps.ans (AnsL.sub rfl rfl ?_) ?_;(focus (constructor <;> omega)))) |(refine kIdx ?_;first |(refine LOps.ans (AnsL.idx tT_ok rfl rfl rfl rfl rfl hg rfl rfl) ?_) |(refine LOps.ans (AnsL.idxZ tT_ok rfl rfl rfl rfl rfl ?_ hgq rfl rfl) ?_;(focus (omega)))) |(refine kCallN 20 ?_;first |(refine LOps.ans (AnsL.callP rfl rfl rfl (ok20) (hA _)) ?_)) |(refine kCallN 21 ?_;first |(refine LOps.ans (AnsL.callP rfl rfl rfl (ok21) (hS _)) ?_))) |(refine kWL ?_;first |(refine WL.seq ?_) |(refine WL.region (by kernel_rfl) ?_) |(refine WL.block ?_) |(refine WL.skip ?_) |(refine kCond ?_;first |(refine WL.condT rfl ?_) |(refine WL.condF rfl ?_) |(refine WL.condT' rfl ?_ ?_;(focus (first |(simp <;> omega)))) |(refine WL.condF' rfl ?_ ?_;(focus (first |(exact decide_eq_false (by assumption))))))) |(refine lthen_n ?_) |(refine lblock_n ?_)
               have hY:outs.map pairV++[V.sl 0 [.int .i64 ((q+1:Nat):Int),.int .i64 (j:Int)]]=(outs++[(((q+1:Nat):Int),(j:Int))]).map pairV:=by rw [List.map_append];rfl
               have hL:∀ v:V,(outs.map pairV).length+[v].length=(outs++[(((q+1:Nat):Int),(j:Int))]).length:=fun v=>by simp
               rw [hY,hL] at hh
               refine lbackH.of ⟨q+1+1,outs++[(((q+1:Nat):Int),(j:Int))],c,n⟩ ⟨rfl,?_,rfl,trivial⟩ hh (Sel.refl _) ⟨hlt,by dsimp only;rw [hrg,hpa,hI];rfl⟩ (by dsimp only;omega)
               exact congrArg (fun k=>some (V.slm (.is c) n 0 k)) (hL _)
       · have hky : keyAt l (q + 1) = false := by rw [hkq]; simp [k1]
         have hS:=fun t=>specl14Shut_v l (q+1) hl hlt (by rw [openP_at hlt];exact h40) t
         have hpa:pairAt l (q+1)=(shutP l (q+1)).map fun j:Nat=>(((q+1:Nat):Int),(j:Int)):=by
           unfold pairAt
           rw [if_pos ⟨by rw [openP_at hlt];exact h40,hky⟩]
         cases hsh:shutP l (q+1) with
         | none =>
           rw [hsh] at hS hpa
           dsimp only [Option.map_none] at hS hpa
           repeat' first |(refine kOps ?_;first |(refine LOps.nil ?_) |(refine kG ?_;first |(refine LOps.gT rfl rfl rfl ?_) |(refine LOps.gF rfl rfl rfl ?_) |(refine LOps.gU rfl rfl ?_) |(refine LOps.gD true rfl rfl rfl ?_ ?_;(focus (first |(exact decide_eq_true (by assumption))))) |(refine LOps.gD false rfl rfl rfl ?_ ?_;(focus (first |(exact decide_eq_false (by assumption)))))) |(refine LOps.ev tT_ok rfl ?_) |(refine kLen ?_;first |(refine LOps.ans (AnsL.lenM tT_ok rfl rfl rfl) ?_)) |(refine kBin ?_;first |(refine LOps.ans (AnsL.add rfl rfl ?_) ?_;(focus (constructor <;> omega))) |(refine LOps.ans (AnsL.sub rfl rfl ?_) ?_;(focus (constructor <;> omega)))) |(refine kIdx ?_;first |(refine LOps.ans (AnsL.idx tT_ok rfl rfl rfl rfl rfl hg rfl rfl) ?_) |(refine LOps.ans (AnsL.idxZ tT_ok rfl rfl rfl rfl rfl ?_ hgq rfl rfl) ?_;(focus (omega)))) |(refine kCallN 20 ?_;first |(refine LOps.ans (AnsL.callP rfl rfl rfl (ok20) (hA _)) ?_)) |(refine kCallN 21 ?_;first |(refine LOps.ans (AnsL.callP rfl rfl rfl (ok21) (hS _)) ?_))) |(refine kWL ?_;first |(refine WL.seq ?_) |(refine WL.region (by kernel_rfl) ?_) |(refine WL.block ?_) |(refine WL.skip ?_) |(refine kCond ?_;first |(refine WL.condF rfl ?_) |(refine WL.condT' rfl ?_ ?_;(focus (first |(simp <;> omega)))))) |(refine lthen_n ?_) |(refine lblock_n ?_)
           exact lbackH.of ⟨q+1+1,outs,oc,ol⟩ ⟨rfl,rfl,rfl,trivial⟩ hh (by (repeat' first |(exact Sel.nil) |(exact Sel.refl _) |(refine' Sel.p ?_ ?_;rotate_left 1;(focus (((repeat' first |(exact Pick.here) |(refine' Pick.there ?_));done)))))) ⟨hlt,by dsimp only;rw [hrg,hpa,hI];simp only [Option.toList_none,List.append_nil]⟩ (by dsimp only;omega)
         | some j =>
           rw [hsh] at hS hpa
           dsimp only [Option.map_some] at hS hpa
           have hj0:¬ (j:Int)<0:=by omega
           repeat' first |(refine kBsl ?_ ;first |(refine' LOps.bslO (d:=56) tT_ok rfl rfl rfl rfl rfl rfl rfl rfl hh ?_ ?_ ?_ ;rotate_left 2 ;(focus ((repeat' first |(exact ConsOL.nil) |(exact ConsO.scal rfl) |(refine' ConsOL.cons ?_ ?_));done)) ;(focus ((repeat' first |(exact ElsH.of rfl));done)) ;intro s n hh) |(refine LOps.ans (AnsL.bslE tT_ok rfl rfl rfl rfl rfl rfl rfl rfl ?_) ?_ ;(focus ((repeat' first |(exact ElsH.of rfl));done)))) |(refine kApp ?_ ;first |(refine' LOps.appW tT_ok 1 rfl rfl rfl rfl rfl rfl rfl rfl rfl rfl hh ?_ ?_ ?_ (AppB.of ?_ rfl) ?_ ;rotate_left 2 ;(focus (first |(intro x hx;obtain ⟨y,_,rfl⟩:=List.mem_map.1 hx;first | rfl | exact PE.cells_len _ | exact PE.planV_len _ | exact EE.cells_len _ | exact EE.queryV_len _))) ;(focus ((repeat' first |(exact ConsOL.nil) |(refine' ConsO.op ?_;((repeat' first |(exact Pick.here));done)) |(refine' ConsOL.cons ?_ ?_));done)) ;(focus ((repeat' first |(exact Elems.of rfl));done)) ;(focus (first | omega |(simp ;omega))) ;intro s c n hh)) |(refine kOps ?_;first |(refine LOps.nil ?_) |(refine kG ?_;first |(refine LOps.gT rfl rfl rfl ?_) |(refine LOps.gF rfl rfl rfl ?_) |(refine LOps.gU rfl rfl ?_) |(refine LOps.gD true rfl rfl rfl ?_ ?_;(focus (first |(exact decide_eq_true (by assumption))))) |(refine LOps.gD false rfl rfl rfl ?_ ?_;(focus (first |(exact decide_eq_false (by assumption)))))) |(refine LOps.ev tT_ok rfl ?_) |(refine kLen ?_;first |(refine LOps.ans (AnsL.lenM tT_ok rfl rfl rfl) ?_)) |(refine kBin ?_;first |(refine LOps.ans (AnsL.add rfl rfl ?_) ?_;(focus (constructor <;> omega))) |(refine LOps.ans (AnsL.sub rfl rfl ?_) ?_;(focus (constructor <;> omega)))) |(refine kIdx ?_;first |(refine LOps.ans (AnsL.idx tT_ok rfl rfl rfl rfl rfl hg rfl rfl) ?_) |(refine LOps.ans (AnsL.idxZ tT_ok rfl rfl rfl rfl rfl ?_ hgq rfl rfl) ?_;(focus (omega)))) |(refine kCallN 20 ?_;first |(refine LOps.ans (AnsL.callP rfl rfl rfl (ok20) (hA _)) ?_)) |(refine kCallN 21 ?_;first |(refine LOps.ans (AnsL.callP rfl rfl rfl (ok21) (hS _)) ?_))) |(refine kWL ?_;first |(refine WL.seq ?_) |(refine WL.region (by kernel_rfl) ?_) |(refine WL.block ?_) |(refine WL.skip ?_) |(refine kCond ?_;first |(refine WL.condT rfl ?_) |(refine WL.condF rfl ?_) |(refine WL.condT' rfl ?_ ?_;(focus (first |(simp <;> omega)))))) |(refine lthen_n ?_) |(refine lblock_n ?_)
           have hY:outs.map pairV++[V.sl 0 [.int .i64 ((q+1:Nat):Int),.int .i64 (j:Int)]]=(outs++[(((q+1:Nat):Int),(j:Int))]).map pairV:=by rw [List.map_append];rfl
           have hL:∀ v:V,(outs.map pairV).length+[v].length=(outs++[(((q+1:Nat):Int),(j:Int))]).length:=fun v=>by simp
           rw [hY,hL] at hh
           refine lbackH.of ⟨q+1+1,outs++[(((q+1:Nat):Int),(j:Int))],c,n⟩ ⟨rfl,?_,rfl,trivial⟩ hh (Sel.refl _) ⟨hlt,by dsimp only;rw [hrg,hpa,hI];rfl⟩ (by dsimp only;omega)
           exact congrArg (fun k=>some (V.slm (.is c) n 0 k)) (hL _)
 · have e : i = l.length := by omega
   subst e
   subst hI
   repeat' first |(refine kOps ?_;first |(refine LOps.nil ?_) |(refine LOps.ev tT_ok rfl ?_) |(refine kLen ?_;first |(refine LOps.ans (AnsL.lenM tT_ok rfl rfl rfl) ?_))) |(refine kWL ?_;first |(refine WL.seq ?_) |(refine WL.region (by kernel_rfl) ?_) |(refine WL.exit ?_) |(refine WL.ret ?_) |(refine kCond ?_;first |(refine WL.condF' rfl ?_ ?_;(focus (first |(simp <;> omega)))))) |(refine lthen_n ?_) |(refine lthen_e ?_) |(refine lblock_e ?_) |(refine lbackH_e ?_) |(refine LPost.r1 (r := .tmp 2) (.inl rfl) (Res1.tmp rfl) ?_)
   exact ⟨_,_,rfl,hh⟩
end Go.Proofs.Ytikghanejpigjaa
