/-
 The tokens of a query's tree, walked: which kids are written in parentheses; a kid. Own work; no condition.
-/
import Derived.Test.YtikghanejpigjaaDTk
import Derived.Test.YtikghanejpigjaaMg37
namespace Go.Proofs.Ytikghanejpigjaa
open Go
set_option linter.unusedSimpArgs false
set_option linter.unusedVariables false
set_option maxHeartbeats 1000000 in
theorem specNeeds_v (e:EE) (k:Int) (s:S):VCalls Try.prog 114 [e.v,.int .i64 k] s (fun v s'=>v = .int .i64 (need e.kind e.op e.kids.length k)∧s'=s):=by
 refine VCalls.wf fun hwf=>?_
 have hkl:(e.kids.length:Int)≤9223372036854775807:=by
   simp only [EE.v,List.all_cons,List.all_nil,V.wf,V.wfL,Bool.and_true,Bool.and_eq_true,decide_eq_true_eq,List.length_map,maxLen] at hwf
   omega
 clear hwf
 have hL:=fun t=>specLevelOf_v e t
 have hn:=lvl_le e.kind e.op
 unfold need
 generalize lvl e.kind e.op=n at hL hn
 unfold EE.v at hL ⊢
 have hml:(e.kids.map EE.toV).length=e.kids.length:=List.length_map ..
 by_cases c1:0≤k∧k≤(e.kids.length:Int) - 1
 · by_cases c2 : n = 0
   · skip
     refine LCalls.pure Try.func114 rfl (by kernel_rfl) (by simp) ?_
     repeat' first |(refine kOps ?_;first |(refine LOps.nil ?_) |(refine kG ?_;first |(refine LOps.gT rfl rfl rfl ?_) |(refine LOps.gF rfl rfl rfl ?_) |(refine LOps.gD true rfl rfl rfl ?_ ?_;(focus (first |(exact decide_eq_true (by assumption)))))) |(refine LOps.ev tT_ok rfl ?_) |(refine kBox ?_;refine LOps.box rfl rfl rfl rfl ?_) |(refine kLoad ?_;first |(refine LOps.ans (AnsL.loadP tT_ok rfl rfl rfl rfl) ?_)) |(refine kLen ?_;first |(refine LOps.ans (AnsL.lenM tT_ok rfl rfl rfl) ?_)) |(refine kBin ?_;first |(refine LOps.ans (AnsL.sub rfl rfl ?_) ?_;(focus (constructor <;> omega)))) |(refine kCallN 92 ?_;first |(refine LOps.ans (AnsL.callP rfl rfl rfl (ok92) (specl1In_t c1 _)) ?_)) |(refine kCallN 98 ?_;first |(refine LOps.ans (AnsL.callP rfl rfl rfl (ok98) (hL _)) ?_))) |(refine kWL ?_;first |(refine WL.seq ?_) |(refine WL.region (by kernel_rfl) ?_) |(refine WL.ret ?_) |(refine kCond ?_;first |(refine WL.condT rfl ?_))) |(refine lthen_n ?_) |(refine lthen_r ?_) |(refine LPost.r1 (r := .tmp 4) (.inl rfl) (Res1.tmp rfl) ?_) |(refine PureR.mk ?_)
     rw [if_pos (.inr (.inl c2))];rfl
   by_cases c3:n=9
   · skip
     refine LCalls.pure Try.func114 rfl (by kernel_rfl) (by simp) ?_
     repeat' first |(refine kOps ?_;first |(refine LOps.nil ?_) |(refine kG ?_;first |(refine LOps.gT rfl rfl rfl ?_) |(refine LOps.gD false rfl rfl rfl ?_ ?_;(focus (first |(exact decide_eq_false (by assumption)))))) |(refine LOps.ev tT_ok rfl ?_) |(refine kBox ?_;refine LOps.box rfl rfl rfl rfl ?_) |(refine kLoad ?_;first |(refine LOps.ans (AnsL.loadP tT_ok rfl rfl rfl rfl) ?_)) |(refine kLen ?_;first |(refine LOps.ans (AnsL.lenM tT_ok rfl rfl rfl) ?_)) |(refine kBin ?_;first |(refine LOps.ans (AnsL.sub rfl rfl ?_) ?_;(focus (constructor <;> omega)))) |(refine kCallN 92 ?_;first |(refine LOps.ans (AnsL.callP rfl rfl rfl (ok92) (specl1In_t c1 _)) ?_)) |(refine kCallN 98 ?_;first |(refine LOps.ans (AnsL.callP rfl rfl rfl (ok98) (hL _)) ?_))) |(refine kWL ?_;first |(refine WL.seq ?_) |(refine WL.region (by kernel_rfl) ?_) |(refine WL.ret ?_) |(refine kCond ?_;first |(refine WL.condT' rfl ?_ ?_;(focus (first |(exact decide_eq_true (by assumption))))))) |(refine lthen_n ?_) |(refine lthen_r ?_) |(refine LPost.r1 (r := .tmp 4) (.inl rfl) (Res1.tmp rfl) ?_) |(refine PureR.mk ?_)
     rw [if_pos (.inr (.inr c3))];rfl
   rw [if_neg (by omega)]
   by_cases d1:e.kind=3
   · skip
     refine LCalls.pure Try.func114 rfl (by kernel_rfl) (by simp) ?_
     repeat' first |(refine kOps ?_;first |(refine LOps.nil ?_) |(refine kG ?_;first |(refine LOps.gT rfl rfl rfl ?_) |(refine LOps.gD false rfl rfl rfl ?_ ?_;(focus (first |(exact decide_eq_false (by assumption)))))) |(refine LOps.ev tT_ok rfl ?_) |(refine kBox ?_;refine LOps.box rfl rfl rfl rfl ?_) |(refine kLoad ?_;first |(refine LOps.ans (AnsL.loadP tT_ok rfl rfl rfl rfl) ?_)) |(refine kLen ?_;first |(refine LOps.ans (AnsL.lenM tT_ok rfl rfl rfl) ?_)) |(refine kBin ?_;first |(refine LOps.ans (AnsL.sub rfl rfl ?_) ?_;(focus (constructor <;> omega)))) |(refine kCallN 92 ?_;first |(refine LOps.ans (AnsL.callP rfl rfl rfl (ok92) (specl1In_t c1 _)) ?_)) |(refine kCallN 98 ?_;first |(refine LOps.ans (AnsL.callP rfl rfl rfl (ok98) (hL _)) ?_))) |(refine kWL ?_;first |(refine WL.seq ?_) |(refine WL.region (by kernel_rfl) ?_) |(refine WL.block ?_) |(refine WL.skip ?_) |(refine WL.ret ?_) |(refine kCond ?_;first |(refine WL.condT' rfl ?_ ?_;(focus (first |(exact decide_eq_true (by assumption))))) |(refine WL.condF' rfl ?_ ?_;(focus (first |(exact decide_eq_false (by assumption))))))) |(refine lthen_n ?_) |(refine lthen_r ?_) |(refine lblock_r ?_) |(refine LPost.r1 (r := .tmp 4) (.inl rfl) (Res1.tmp rfl) ?_) |(refine PureR.mk ?_)
     rw [if_pos d1];rfl
   rw [if_neg d1]
   by_cases d2:e.kind=4
   · rw [if_pos d2]
     by_cases d3:n=4
     · skip
       refine LCalls.pure Try.func114 rfl (by kernel_rfl) (by simp) ?_
       repeat' first |(refine kOps ?_;first |(refine LOps.nil ?_) |(refine kG ?_;first |(refine LOps.gT rfl rfl rfl ?_) |(refine LOps.gD false rfl rfl rfl ?_ ?_;(focus (first |(exact decide_eq_false (by assumption)))))) |(refine LOps.ev tT_ok rfl ?_) |(refine kBox ?_;refine LOps.box rfl rfl rfl rfl ?_) |(refine kLoad ?_;first |(refine LOps.ans (AnsL.loadP tT_ok rfl rfl rfl rfl) ?_)) |(refine kLen ?_;first |(refine LOps.ans (AnsL.lenM tT_ok rfl rfl rfl) ?_)) |(refine kBin ?_;first |(refine LOps.ans (AnsL.sub rfl rfl ?_) ?_;(focus (constructor <;> omega)))) |(refine kCallN 92 ?_;first |(refine LOps.ans (AnsL.callP rfl rfl rfl (ok92) (specl1In_t c1 _)) ?_)) |(refine kCallN 98 ?_;first |(refine LOps.ans (AnsL.callP rfl rfl rfl (ok98) (hL _)) ?_))) |(refine kWL ?_;first |(refine WL.seq ?_) |(refine WL.region (by kernel_rfl) ?_) |(refine WL.block ?_) |(refine WL.skip ?_) |(refine WL.ret ?_) |(refine kCond ?_;first |(refine WL.condT' rfl ?_ ?_;(focus (first |(exact decide_eq_true (by assumption))))) |(refine WL.condF' rfl ?_ ?_;(focus (first |(exact decide_eq_false (by assumption))))))) |(refine lthen_n ?_) |(refine lthen_r ?_) |(refine lblock_r ?_) |(refine LPost.r1 (r := .tmp 4) (.inl rfl) (Res1.tmp rfl) ?_) |(refine PureR.mk ?_)
       rw [if_pos d3];rfl
     rw [if_neg d3]
     by_cases d4:k=0
     · skip
       refine LCalls.pure Try.func114 rfl (by kernel_rfl) (by simp) ?_
       repeat' first |(refine kOps ?_;first |(refine LOps.nil ?_) |(refine kG ?_;first |(refine LOps.gT rfl rfl rfl ?_) |(refine LOps.gD false rfl rfl rfl ?_ ?_;(focus (first |(exact decide_eq_false (by assumption)))))) |(refine LOps.ev tT_ok rfl ?_) |(refine kBox ?_;refine LOps.box rfl rfl rfl rfl ?_) |(refine kLoad ?_;first |(refine LOps.ans (AnsL.loadP tT_ok rfl rfl rfl rfl) ?_)) |(refine kLen ?_;first |(refine LOps.ans (AnsL.lenM tT_ok rfl rfl rfl) ?_)) |(refine kBin ?_;first |(refine LOps.ans (AnsL.sub rfl rfl ?_) ?_;(focus (constructor <;> omega)))) |(refine kCallN 92 ?_;first |(refine LOps.ans (AnsL.callP rfl rfl rfl (ok92) (specl1In_t c1 _)) ?_)) |(refine kCallN 98 ?_;first |(refine LOps.ans (AnsL.callP rfl rfl rfl (ok98) (hL _)) ?_))) |(refine kWL ?_;first |(refine WL.seq ?_) |(refine WL.region (by kernel_rfl) ?_) |(refine WL.block ?_) |(refine WL.skip ?_) |(refine WL.ret ?_) |(refine kCond ?_;first |(refine WL.condT' rfl ?_ ?_;(focus (first |(exact decide_eq_true (by assumption))))) |(refine WL.condF' rfl ?_ ?_;(focus (first |(exact decide_eq_false (by assumption))))))) |(refine lthen_n ?_) |(refine lthen_r ?_) |(refine lblock_r ?_) |(refine LPost.r1 (r := .tmp 4) (.inl rfl) (Res1.tmp rfl) ?_) |(refine PureR.mk ?_)
       rw [if_pos d4];rfl
     · skip
       refine LCalls.pure Try.func114 rfl (by kernel_rfl) (by simp) ?_
       repeat' first |(refine kOps ?_;first |(refine LOps.nil ?_) |(refine kG ?_;first |(refine LOps.gT rfl rfl rfl ?_) |(refine LOps.gD false rfl rfl rfl ?_ ?_;(focus (first |(exact decide_eq_false (by assumption)))))) |(refine LOps.ev tT_ok rfl ?_) |(refine kBox ?_;refine LOps.box rfl rfl rfl rfl ?_) |(refine kLoad ?_;first |(refine LOps.ans (AnsL.loadP tT_ok rfl rfl rfl rfl) ?_)) |(refine kLen ?_;first |(refine LOps.ans (AnsL.lenM tT_ok rfl rfl rfl) ?_)) |(refine kBin ?_;first |(refine LOps.ans (AnsL.add rfl rfl ?_) ?_;(focus (constructor <;> omega))) |(refine LOps.ans (AnsL.sub rfl rfl ?_) ?_;(focus (constructor <;> omega)))) |(refine kCallN 92 ?_;first |(refine LOps.ans (AnsL.callP rfl rfl rfl (ok92) (specl1In_t c1 _)) ?_)) |(refine kCallN 98 ?_;first |(refine LOps.ans (AnsL.callP rfl rfl rfl (ok98) (hL _)) ?_))) |(refine kWL ?_;first |(refine WL.seq ?_) |(refine WL.region (by kernel_rfl) ?_) |(refine WL.block ?_) |(refine WL.skip ?_) |(refine WL.ret ?_) |(refine kCond ?_;first |(refine WL.condT' rfl ?_ ?_;(focus (first |(exact decide_eq_true (by assumption))))) |(refine WL.condF' rfl ?_ ?_;(focus (first |(exact decide_eq_false (by assumption))))))) |(refine lthen_n ?_) |(refine lthen_r ?_) |(refine lblock_r ?_) |(refine LPost.r1 (r := .tmp 4) (.inl rfl) (Res1.tmp rfl) ?_) |(refine PureR.mk ?_)
       rw [if_neg d4];rfl
   rw [if_neg d2]
   by_cases d5:e.kind=7
   · by_cases d6 : k > 0
     · skip
       refine LCalls.pure Try.func114 rfl (by kernel_rfl) (by simp) ?_
       repeat' first |(refine kOps ?_;first |(refine LOps.nil ?_) |(refine kG ?_;first |(refine LOps.gT rfl rfl rfl ?_) |(refine LOps.gD false rfl rfl rfl ?_ ?_;(focus (first |(exact decide_eq_false (by assumption)))))) |(refine LOps.ev tT_ok rfl ?_) |(refine kBox ?_;refine LOps.box rfl rfl rfl rfl ?_) |(refine kLoad ?_;first |(refine LOps.ans (AnsL.loadP tT_ok rfl rfl rfl rfl) ?_)) |(refine kLen ?_;first |(refine LOps.ans (AnsL.lenM tT_ok rfl rfl rfl) ?_)) |(refine kBin ?_;first |(refine LOps.ans (AnsL.sub rfl rfl ?_) ?_;(focus (constructor <;> omega)))) |(refine kCallN 92 ?_;first |(refine LOps.ans (AnsL.callP rfl rfl rfl (ok92) (specl1In_t c1 _)) ?_)) |(refine kCallN 98 ?_;first |(refine LOps.ans (AnsL.callP rfl rfl rfl (ok98) (hL _)) ?_))) |(refine kWL ?_;first |(refine WL.seq ?_) |(refine WL.region (by kernel_rfl) ?_) |(refine WL.block ?_) |(refine WL.skip ?_) |(refine WL.ret ?_) |(refine kCond ?_;first |(refine WL.condT' rfl ?_ ?_;(focus (first |(exact decide_eq_true (by assumption))))) |(refine WL.condF' rfl ?_ ?_;(focus (first |(exact decide_eq_false (by assumption))))))) |(refine lthen_n ?_) |(refine lthen_r ?_) |(refine lblock_r ?_) |(refine LPost.r1 (r := .tmp 4) (.inl rfl) (Res1.tmp rfl) ?_) |(refine PureR.mk ?_)
       rw [if_pos ⟨d5,d6⟩];rfl
     · skip
       refine LCalls.pure Try.func114 rfl (by kernel_rfl) (by simp) ?_
       repeat' first |(refine kOps ?_;first |(refine LOps.nil ?_) |(refine kG ?_;first |(refine LOps.gT rfl rfl rfl ?_) |(refine LOps.gD false rfl rfl rfl ?_ ?_;(focus (first |(exact decide_eq_false (by assumption)))))) |(refine LOps.ev tT_ok rfl ?_) |(refine kBox ?_;refine LOps.box rfl rfl rfl rfl ?_) |(refine kLoad ?_;first |(refine LOps.ans (AnsL.loadP tT_ok rfl rfl rfl rfl) ?_)) |(refine kLen ?_;first |(refine LOps.ans (AnsL.lenM tT_ok rfl rfl rfl) ?_)) |(refine kBin ?_;first |(refine LOps.ans (AnsL.sub rfl rfl ?_) ?_;(focus (constructor <;> omega)))) |(refine kCallN 92 ?_;first |(refine LOps.ans (AnsL.callP rfl rfl rfl (ok92) (specl1In_t c1 _)) ?_)) |(refine kCallN 98 ?_;first |(refine LOps.ans (AnsL.callP rfl rfl rfl (ok98) (hL _)) ?_))) |(refine kWL ?_;first |(refine WL.seq ?_) |(refine WL.region (by kernel_rfl) ?_) |(refine WL.block ?_) |(refine WL.skip ?_) |(refine WL.ret ?_) |(refine kCond ?_;first |(refine WL.condT' rfl ?_ ?_;(focus (first |(exact decide_eq_true (by assumption))))) |(refine WL.condF' rfl ?_ ?_;(focus (first |(exact decide_eq_false (by assumption))))))) |(refine lthen_n ?_) |(refine lblock_n ?_) |(refine LPost.r1 (r := .tmp 4) (.inl rfl) (Res1.tmp rfl) ?_) |(refine PureR.mk ?_)
       rw [if_neg (fun h=>d6 h.2)];rfl
   · skip
     refine LCalls.pure Try.func114 rfl (by kernel_rfl) (by simp) ?_
     repeat' first |(refine kOps ?_;first |(refine LOps.nil ?_) |(refine kG ?_;first |(refine LOps.gT rfl rfl rfl ?_) |(refine LOps.gD false rfl rfl rfl ?_ ?_;(focus (first |(exact decide_eq_false (by assumption)))))) |(refine LOps.ev tT_ok rfl ?_) |(refine kBox ?_;refine LOps.box rfl rfl rfl rfl ?_) |(refine kLoad ?_;first |(refine LOps.ans (AnsL.loadP tT_ok rfl rfl rfl rfl) ?_)) |(refine kLen ?_;first |(refine LOps.ans (AnsL.lenM tT_ok rfl rfl rfl) ?_)) |(refine kBin ?_;first |(refine LOps.ans (AnsL.sub rfl rfl ?_) ?_;(focus (constructor <;> omega)))) |(refine kCallN 92 ?_;first |(refine LOps.ans (AnsL.callP rfl rfl rfl (ok92) (specl1In_t c1 _)) ?_)) |(refine kCallN 98 ?_;first |(refine LOps.ans (AnsL.callP rfl rfl rfl (ok98) (hL _)) ?_))) |(refine kWL ?_;first |(refine WL.seq ?_) |(refine WL.region (by kernel_rfl) ?_) |(refine WL.block ?_) |(refine WL.skip ?_) |(refine WL.ret ?_) |(refine kCond ?_;first |(refine WL.condF' rfl ?_ ?_;(focus (first |(exact decide_eq_false (by assumption))))))) |(refine lthen_n ?_) |(refine lblock_n ?_) |(refine LPost.r1 (r := .tmp 4) (.inl rfl) (Res1.tmp rfl) ?_) |(refine PureR.mk ?_)
     rw [if_neg (fun h=>d5 h.1)];rfl
 · skip
   refine LCalls.pure Try.func114 rfl (by kernel_rfl) (by simp) ?_
   repeat' first |(refine kOps ?_;first |(refine LOps.nil ?_) |(refine kG ?_;first |(refine LOps.gF rfl rfl rfl ?_)) |(refine LOps.ev tT_ok rfl ?_) |(refine kBox ?_;refine LOps.box rfl rfl rfl rfl ?_) |(refine kLoad ?_;first |(refine LOps.ans (AnsL.loadP tT_ok rfl rfl rfl rfl) ?_)) |(refine kLen ?_;first |(refine LOps.ans (AnsL.lenM tT_ok rfl rfl rfl) ?_)) |(refine kBin ?_;first |(refine LOps.ans (AnsL.sub rfl rfl ?_) ?_;(focus (constructor <;> omega)))) |(refine kCallN 92 ?_;first |(refine LOps.ans (AnsL.callP rfl rfl rfl (ok92) (specl1In_f c1 _)) ?_)) |(refine kCallN 98 ?_;first |(refine LOps.ans (AnsL.callP rfl rfl rfl (ok98) (hL _)) ?_))) |(refine kWL ?_;first |(refine WL.seq ?_) |(refine WL.region (by kernel_rfl) ?_) |(refine WL.ret ?_) |(refine kCond ?_;first |(refine WL.condT rfl ?_))) |(refine lthen_n ?_) |(refine lthen_r ?_) |(refine LPost.r1 (r := .tmp 4) (.inl rfl) (Res1.tmp rfl) ?_) |(refine PureR.mk ?_)
   rw [if_pos (.inl c1)];rfl
theorem EE.kid_at' {e:EE} {k:Nat} (hk:k<e.kids.length):(e.kids.map EE.toV)[k]?=some (EE.v e.kids[k]):=by
 rw [List.getElem?_map,List.getElem?_eq_getElem hk];simp only [Option.map_some,EE.toV_eq]
theorem specWrapped_v (e:EE) (k:Nat) (hk:k<e.kids.length) (s:S):VCalls Try.prog 97 [e.v,.int .i64 (k:Int)] s (fun v s'=>v = .bool (decide (lvl e.kids[k].kind e.kids[k].op<need e.kind e.op e.kids.length k))∧s'=s):=by
 refine VCalls.wf fun hwf=>?_
 have hkl:(e.kids.length:Int)≤9223372036854775807:=by
   simp only [EE.v,List.all_cons,List.all_nil,V.wf,V.wfL,Bool.and_true,Bool.and_eq_true,decide_eq_true_eq,List.length_map,maxLen] at hwf
   omega
 clear hwf
 have hN:=fun t=>specNeeds_v e (k:Int) t
 have hga:=EE.kid_at' hk
 have hL:=fun t=>specLevelOf_v e.kids[k] t
 generalize need e.kind e.op e.kids.length k=m at hN
 generalize lvl e.kids[k].kind e.kids[k].op=n at hL
 generalize e.kids[k]=x at hga hL
 have hml:(e.kids.map EE.toV).length=e.kids.length:=List.length_map ..
 unfold EE.v at hN ⊢
 refine LCalls.pure Try.func97 rfl (by kernel_rfl) (by simp) ?_
 repeat' first |(refine kOps ?_;first |(refine LOps.nil ?_) |(refine LOps.ev tT_ok rfl ?_) |(refine kBox ?_;refine LOps.box rfl rfl rfl rfl ?_)) |(refine kWL ?_;first |(refine WL.seq ?_) |(refine WL.region (by kernel_rfl) ?_) |(refine WL.drawn (id:=1) [0,1,2,3,4,5,6,7,8,9,10,11,12,13,14,15,16,17,18] [] [[],[],[1],[1,2],[1,2,3],[0,1,2,3,4],[0,1,2,3,4,5],[0,1,2,3,4,5,6],[0,1,2,3,4,5,6,7],[0,1,2,3,4,5,6],[0,1,2,3,4,5,6,7,8,9],[0,1,2,3,4,5,6,7,8,9,10],[0,1,2,3,4,5,6,7,8,9,10,11],[0,1,2,3,4,5,6],[0,1,2,3,4,5,6],[0,1,2,3,4,5,6,7,8,9,10,11,12,13,14],[0,1,2,3,4,5,6,7,8,9,10,11,12,13,14,15],[0,1,2,3,4,5,6,7,8,9,10,11,12,13,14,15,16],[0,1,2,3,4,5,6,7,8,9,10,11,12,13,14,15,16,17]] (by kernel_rfl) (by kernel_rfl) ?_) |(refine WL.ret ?_)) |(refine kDr ?_;first |(refine LDr.nil ?_) |(refine LDr.fl rfl rfl (.ev tT_ok rfl) ?_) |(refine LDr.gT rfl rfl rfl rfl rfl (.ev tT_ok rfl) ?_) |(refine kDLoad rfl ?_;first |(refine LDr.fl rfl rfl (AnsL.loadP tT_ok rfl rfl rfl rfl) ?_) |(refine LDr.gT rfl rfl rfl rfl rfl (AnsL.loadP tT_ok rfl rfl rfl rfl) ?_)) |(refine kDLen rfl ?_;first |(refine LDr.fl rfl rfl (AnsL.lenM tT_ok rfl rfl rfl) ?_)) |(refine kDBin rfl ?_;first |(refine LDr.fl rfl rfl (AnsL.sub rfl rfl ?_) ?_;(focus (constructor <;> omega)))) |(refine kDIdx rfl ?_;first |(refine LDr.gT rfl rfl rfl rfl rfl (AnsL.idx tT_ok rfl rfl rfl rfl rfl hga rfl rfl) ?_)) |(refine kDCallN 114 rfl ?_;first |(refine LDr.gT rfl rfl rfl rfl rfl (AnsL.callP rfl rfl rfl (ok114) (hN _)) ?_)) |(refine kDCallN 92 rfl ?_;first |(refine LDr.fl rfl rfl (AnsL.callP rfl rfl rfl (ok92) (specl1In_t ?_ _)) ?_;(focus (omega)))) |(refine kDCallN 98 rfl ?_;first |(refine LDr.gT rfl rfl rfl rfl rfl (AnsL.callP rfl rfl rfl (ok98) (hL _)) ?_))) |(refine lthen_n ?_) |(refine LPost.r1 (r := .tmp 4) (.inl rfl) (Res1.tmp rfl) ?_) |(refine PureR.mk ?_)
 rfl
end Go.Proofs.Ytikghanejpigjaa
