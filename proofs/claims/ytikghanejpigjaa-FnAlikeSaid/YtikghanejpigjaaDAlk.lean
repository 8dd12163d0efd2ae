/-
 Trees that are written alike are alike: the law, walked. Own work; no condition.
-/
import Derived.Test.YtikghanejpigjaaMg47
import Derived.Test.YtikghanejpigjaaDEDr
import Derived.Test.YtikghanejpigjaaMg51
namespace Go.Proofs.Ytikghanejpigjaa
open Go
set_option linter.unusedSimpArgs false
set_option linter.unusedVariables false
theorem tok_refl (l:List Token):same tokEq l l=true:=by
 have:∀ l:List Token,eqAll tokEq l l=true:=by
   intro l
   induction l with
   | nil=>rfl
   | cons x l ih=>simp [eqAll,tokEq,ih]
 simp [same,this]
set_option maxHeartbeats 4000000 in
theorem lawAlikeL_v {b:V} (hb:Bytes b) (s:S):VCalls Try.prog 4 [b] s (fun v _=>v = .bool true):=by
 obtain ⟨c,hbig⟩:=big_v hb
 have hh:Hold s s.next [] := .start _ _
 refine LCalls.body Try.func4 rfl (by kernel_rfl) ?_
 cases c
 · skip
   repeat' first |(refine kAlloc ?_ ;refine LOps.allocH tT_ok hh rfl rfl ?_ ;intro s n hh) |(refine kStore ?_ ;first |(refine LOps.storeH tT_ok 0 hh rfl rfl rfl rfl rfl rfl rfl rfl rfl ?_ ;intro s hh) |(refine LOps.storeH tT_ok 1 hh rfl rfl rfl rfl rfl rfl rfl rfl rfl ?_ ;intro s hh)) |(refine kCallN 10 ?_ ;refine LOps.drawAll rfl rfl ok10 hh (specDrawSameExpr_d hb) ?_ ;intro s x hq hh) |(refine kOps ?_;first |(refine LOps.nil ?_) |(refine LOps.ev tT_ok rfl ?_) |(refine kLoad ?_;first |(refine LOps.ans (AnsL.loadH tT_ok 0 hh rfl rfl rfl rfl) ?_) |(refine LOps.ans (AnsL.loadH tT_ok 1 hh rfl rfl rfl rfl) ?_)) |(refine kCallN 5 ?_;first |(refine LOps.ans (AnsL.callP rfl rfl rfl (ok5) (hbig _)) ?_))) |(refine kWL ?_;first |(refine WL.seq ?_) |(refine WL.region (by kernel_rfl) ?_) |(refine WL.skip ?_) |(refine kCond ?_;first |(refine WL.condF rfl ?_))) |(refine lthen_n ?_)
   rename EE × EE=>x
   obtain ⟨x,y⟩:=x
   have hwx:wgt x.v≤2000:=by simp_all
   have hwy:wgt y.v≤2000:=by simp_all
   have hI1:=fun t=>implSameExpr_c x y t
   have hI2:=fun t=>implSameExpr_c y x t
   have hS:=fun t=>specSameExpr_c x y t
   rw [EE.eqB_comm y x] at hI2
   obtain ⟨c1,g1,O1⟩:=specExprOk_c x (by omega)
   obtain ⟨c2,g2,O2⟩:=specExprOk_c y (by omega)
   dsimp only at hh ⊢
   cases c1
   · generalize EE.eqB x y = e at hI1 hI2 hS
     repeat' first |(refine kOps ?_;first |(refine LOps.nil ?_) |(refine kG ?_;first |(refine LOps.gT rfl rfl rfl ?_) |(refine LOps.gF rfl rfl rfl ?_) |(refine LOps.gD false rfl rfl rfl ?_ ?_;(focus (first |(simp <;> fail))))) |(refine LOps.ev tT_ok rfl ?_) |(refine kLoad ?_;first |(refine LOps.ans (AnsL.loadH tT_ok 0 hh rfl rfl rfl rfl) ?_) |(refine LOps.ans (AnsL.loadH tT_ok 1 hh rfl rfl rfl rfl) ?_)) |(refine kCallN 11 ?_;first |(refine LOps.ans (AnsL.callP rfl rfl rfl (ok11) (hI1 _)) ?_) |(refine LOps.ans (AnsL.callP rfl rfl rfl (ok11) (hI2 _)) ?_)) |(refine kCallN 12 ?_;first |(refine LOps.ans (AnsL.callP rfl rfl rfl (ok12) (hS _)) ?_)) |(refine kCallN 13 ?_;first |(refine LOps.ans (AnsL.callP rfl rfl rfl (ok13) (O1 _)) ?_))) |(refine kWL ?_;first |(refine WL.seq ?_) |(refine WL.region (by kernel_rfl) ?_) |(refine WL.skip ?_) |(refine WL.ret ?_) |(refine kCond ?_;first |(refine WL.condT rfl ?_) |(refine WL.condF' rfl ?_ ?_;(focus (first |(simp <;> fail)))))) |(refine lthen_n ?_) |(refine lthen_r ?_) |(refine LPost.r1 (r := .tmp 2) (.inl rfl) (Res1.tmp rfl) ?_)
     all_goals first
       | rfl
       |(simp_all;done)
   cases c2
   · generalize EE.eqB x y = e at hI1 hI2 hS
     repeat' first |(refine kOps ?_;first |(refine LOps.nil ?_) |(refine kG ?_;first |(refine LOps.gT rfl rfl rfl ?_) |(refine LOps.gD false rfl rfl rfl ?_ ?_;(focus (first |(simp <;> fail))))) |(refine LOps.ev tT_ok rfl ?_) |(refine kLoad ?_;first |(refine LOps.ans (AnsL.loadH tT_ok 0 hh rfl rfl rfl rfl) ?_) |(refine LOps.ans (AnsL.loadH tT_ok 1 hh rfl rfl rfl rfl) ?_)) |(refine kCallN 11 ?_;first |(refine LOps.ans (AnsL.callP rfl rfl rfl (ok11) (hI1 _)) ?_) |(refine LOps.ans (AnsL.callP rfl rfl rfl (ok11) (hI2 _)) ?_)) |(refine kCallN 12 ?_;first |(refine LOps.ans (AnsL.callP rfl rfl rfl (ok12) (hS _)) ?_)) |(refine kCallN 13 ?_;first |(refine LOps.ans (AnsL.callP rfl rfl rfl (ok13) (O1 _)) ?_) |(refine LOps.ans (AnsL.callP rfl rfl rfl (ok13) (O2 _)) ?_))) |(refine kWL ?_;first |(refine WL.seq ?_) |(refine WL.region (by kernel_rfl) ?_) |(refine WL.skip ?_) |(refine WL.ret ?_) |(refine kCond ?_;first |(refine WL.condT rfl ?_) |(refine WL.condF' rfl ?_ ?_;(focus (first |(simp <;> fail)))))) |(refine lthen_n ?_) |(refine lthen_r ?_) |(refine LPost.r1 (r := .tmp 2) (.inl rfl) (Res1.tmp rfl) ?_)
     all_goals first
       | rfl
       |(simp_all;done)
   have hT1:=specExprTokens_o x (by omega) (g1 rfl) O1
   have hT2:=specExprTokens_o y (by omega) (g2 rfl) O2
   have l1:(x.tk false).length≤4000000000:=by have:=tk_len false x;omega
   have hST:=fun t=>specSameTokens_v (x.tk false) (y.tk false) l1 t
   have hst:same tokEq (x.tk false) (y.tk false)=x.eqB y:=by
     cases he:x.eqB y
     · cases h : same tokEq (x.tk false) (y.tk false)
       · rfl
       · rw [tk_inj' (g1 rfl) (g2 rfl) h, (EE.eqB_iff y y).2 rfl] at he
         cases he
     · rw [(EE.eqB_iff x y).1 he]
       exact tok_refl _
   rw [hst] at hST
   generalize EE.eqB x y=e at hI1 hI2 hS hST
   repeat' first |(refine kCallN 15 ?_ ;(first |(refine LOps.outB rfl rfl ok15 hh hT1 ?_) |(refine LOps.outB rfl rfl ok15 hh hT2 ?_)) ;intro s _ _ hh ;try dsimp only [List.nil_append] at hh) |(refine kOps ?_;first |(refine LOps.nil ?_) |(refine kG ?_;first |(refine LOps.gT rfl rfl rfl ?_) |(refine LOps.gD false rfl rfl rfl ?_ ?_;(focus (first |(simp <;> fail))))) |(refine LOps.ev tT_ok rfl ?_) |(refine kLoad ?_;first |(refine LOps.ans (AnsL.loadH tT_ok 0 hh rfl rfl rfl rfl) ?_) |(refine LOps.ans (AnsL.loadH tT_ok 1 hh rfl rfl rfl rfl) ?_)) |(refine kCallN 11 ?_;first |(refine LOps.ans (AnsL.callP rfl rfl rfl (ok11) (hI1 _)) ?_) |(refine LOps.ans (AnsL.callP rfl rfl rfl (ok11) (hI2 _)) ?_)) |(refine kCallN 12 ?_;first |(refine LOps.ans (AnsL.callP rfl rfl rfl (ok12) (hS _)) ?_)) |(refine kCallN 13 ?_;first |(refine LOps.ans (AnsL.callP rfl rfl rfl (ok13) (O1 _)) ?_) |(refine LOps.ans (AnsL.callP rfl rfl rfl (ok13) (O2 _)) ?_)) |(refine kCallN 14 ?_;first |(refine LOps.ans (AnsL.callP rfl rfl rfl (ok14) (hST _)) ?_))) |(refine kWL ?_;first |(refine WL.seq ?_) |(refine WL.region (by kernel_rfl) ?_) |(refine WL.drawn (id:=9) [0,1,3,2,4,5,6,7] [2,4,5] [[],[],[1],[],[1,2,3],[1,2,3,4],[0,1,2,3,4,5],[0,1,2,3,4,5,6]] (by kernel_rfl) (by kernel_rfl) ?_) |(refine WL.skip ?_) |(refine WL.ret ?_) |(refine kCond ?_;first |(refine WL.condF rfl ?_) |(refine WL.condF' rfl ?_ ?_;(focus (first |(simp <;> fail)))))) |(refine kDr ?_;first |(refine LDr.nil ?_) |(refine LDr.fl rfl rfl (.ev tT_ok rfl) ?_) |(refine kDLoad rfl ?_;first |(refine LDr.fl rfl rfl (AnsL.loadH tT_ok 0 hh rfl rfl rfl rfl) ?_) |(refine LDr.fl rfl rfl (AnsL.loadH tT_ok 1 hh rfl rfl rfl rfl) ?_)) |(refine LDr.eff rfl rfl rfl ?_)) |(refine lthen_n ?_) |(refine LPost.r1 (r := .tmp 2) (.inl rfl) (Res1.tmp rfl) ?_) |(refine And.intro ?_ ?_) |(exact StsL.nil) |(refine StsL.cons ?_ ?_) |(refine StL.fl rfl rfl (.ev tT_ok rfl)) |(refine StL.fl rfl rfl (AnsL.loadH tT_ok 0 hh rfl rfl rfl rfl))
   all_goals first
     | rfl
     |(simp_all;done)
 · skip
   repeat' first |(refine kOps ?_;first |(refine LOps.nil ?_) |(refine LOps.ev tT_ok rfl ?_) |(refine kCallN 5 ?_;first |(refine LOps.ans (AnsL.callP rfl rfl rfl (ok5) (hbig _)) ?_))) |(refine kWL ?_;first |(refine WL.seq ?_) |(refine WL.region (by kernel_rfl) ?_) |(refine WL.ret ?_) |(refine kCond ?_;first |(refine WL.condT rfl ?_))) |(refine lthen_n ?_) |(refine lthen_r ?_) |(refine LPost.r1 (r := .tmp 2) (.inl rfl) (Res1.tmp rfl) ?_)
   rfl
end Go.Proofs.Ytikghanejpigjaa
