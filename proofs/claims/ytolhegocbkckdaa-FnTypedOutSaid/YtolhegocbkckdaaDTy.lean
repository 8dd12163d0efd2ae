/-
 Types of operators, of the program and of the reference, in the later logic. Own work; no condition.
-/
import Derived.Test.YtolhegocbkckdaaMg12
namespace Go.Proofs.Ytolhegocbkckdaa
open Go
set_option linter.unusedSimpArgs false
set_option linter.unusedVariables false
def isTy (a:Int):Bool:=inR a 0 3
def tru (a:Int):Bool:=decide (a=0) || decide (a=3)
def like (a ty:Int):Bool:=decide (a=0) || decide (a=ty)
def meetT (a b:Int):Int × Bool:=if isTy a=true∧isTy b=true then (if a=0 then (b,true) else if b=0∨a=b then (a,true) else (0,false)) else (0,false)
def binOk (op a b:Int):Bool:=inR op 1 14&&(if op≤2 then tru a&&tru b else if op≤8 then (meetT a b).2 else if op=9 then like a 2&&like b 2 else like a 1&&like b 1)
def binTy (op:Int):Int:=if op≤8 then 3 else if op=9 then 2 else 1
def binT (op a b:Int):Int × Bool:=if binOk op a b=true then (binTy op,true) else (0,false)
def unT2 (op a:Int):Int × Bool:=if op=15∧tru a=true then (3,true) else if op=16∧like a 1=true then (1,true) else (0,false)
theorem tru_isTy {a:Int} (h:tru a=true):isTy a=true:=by
 simp only [tru,isTy,inR,Bool.or_eq_true,Bool.and_eq_true,decide_eq_true_eq] at *;omega
theorem like_isTy {a ty:Int} (h:like a ty=true) (h1:0≤ty) (h2:ty≤3):isTy a=true:=by
 simp only [like,isTy,inR,Bool.or_eq_true,Bool.and_eq_true,decide_eq_true_eq] at *;omega
theorem meet_isTy {a b:Int} (h:(meetT a b).2=true):isTy a=true∧isTy b=true:=by
 unfold meetT at h
 split at h
 · assumption
 · cases h
theorem binOk_isTy {op a b:Int} (h:binOk op a b=true):isTy a=true∧isTy b=true:=by
 unfold binOk at h
 rw [Bool.and_eq_true] at h
 have h:=h.2
 split at h
 · rw [Bool.and_eq_true] at h;exact ⟨tru_isTy h.1,tru_isTy h.2⟩
 split at h
 · exact meet_isTy h
 split at h
 · rw [Bool.and_eq_true] at h;exact ⟨like_isTy h.1 (by omega) (by omega),like_isTy h.2 (by omega) (by omega)⟩
 · rw [Bool.and_eq_true] at h;exact ⟨like_isTy h.1 (by omega) (by omega),like_isTy h.2 (by omega) (by omega)⟩
def tyV (r:Int × Bool):V := .tup [.int .i64 r.1,.bool r.2]
@[simp] theorem tyV_dat (r:Int × Bool):(tyV r).dat=true:=by simp [tyV]
theorem implTruthy_t (k:Int) (s:S):VCalls Try.prog 137 [.int .i64 k] s (fun v s'=>v = .bool (tru k)∧s'=s):=by
 refine LCalls.pure Try.func137 rfl (by kernel_rfl) (by simp) ?_
 repeat' first |(refine kOps ?_;first |(refine LOps.nil ?_) |(refine kG ?_;first |(refine LOps.gT rfl rfl rfl ?_) |(refine LOps.gF rfl rfl rfl ?_) |(refine LOps.gC rfl rfl rfl (fun h=>?_) (fun h=>?_))) |(refine LOps.ev tT_ok rfl ?_)) |(refine kWL ?_;first |(refine WL.seq ?_) |(refine WL.region (by kernel_rfl) ?_) |(refine WL.ret ?_)) |(refine lthen_n ?_) |(refine LPost.r1 (r := .tmp 2) (.inl rfl) (Res1.tmp rfl) ?_) |(refine PureR.mk ?_)
 all_goals simp_all [tru]
theorem specTruthy_t (k:Int) (s:S):VCalls Try.prog 113 [.int .i64 k] s (fun v s'=>v = .bool (tru k)∧s'=s):=by
 refine LCalls.pure Try.func113 rfl (by kernel_rfl) (by simp) ?_
 repeat' first |(refine kOps ?_;first |(refine LOps.nil ?_) |(refine kG ?_;first |(refine LOps.gT rfl rfl rfl ?_) |(refine LOps.gF rfl rfl rfl ?_) |(refine LOps.gC rfl rfl rfl (fun h=>?_) (fun h=>?_))) |(refine LOps.ev tT_ok rfl ?_)) |(refine kWL ?_;first |(refine WL.seq ?_) |(refine WL.region (by kernel_rfl) ?_) |(refine WL.ret ?_)) |(refine lthen_n ?_) |(refine LPost.r1 (r := .tmp 2) (.inl rfl) (Res1.tmp rfl) ?_) |(refine PureR.mk ?_)
 all_goals simp_all [tru]
theorem implareOf_t (ty a b:Int) (s:S):VCalls Try.prog 138 [.int .i64 ty,.int .i64 a,.int .i64 b] s (fun v s'=>v = .bool (like a ty&&like b ty)∧s'=s):=by
 refine LCalls.pure Try.func138 rfl (by kernel_rfl) (by simp) ?_
 repeat' first |(refine kOps ?_;first |(refine LOps.nil ?_) |(refine kG ?_;first |(refine LOps.gT rfl rfl rfl ?_) |(refine LOps.gF rfl rfl rfl ?_) |(refine LOps.gU rfl rfl ?_) |(refine LOps.gC rfl rfl rfl (fun h=>?_) (fun h=>?_))) |(refine LOps.ev tT_ok rfl ?_)) |(refine kWL ?_;first |(refine WL.seq ?_) |(refine WL.region (by kernel_rfl) ?_) |(refine WL.ret ?_)) |(refine lthen_n ?_) |(refine LPost.r1 (r := .tmp 6) (.inl rfl) (Res1.tmp rfl) ?_) |(refine PureR.mk ?_)
 all_goals simp_all [like]
theorem specl17Like_t (k ty:Int) (s:S):VCalls Try.prog 114 [.int .i64 k,.int .i64 ty] s (fun v s'=>v = .bool (like k ty)∧s'=s):=by
 refine LCalls.pure Try.func114 rfl (by kernel_rfl) (by simp) ?_
 repeat' first |(refine kOps ?_;first |(refine LOps.nil ?_) |(refine kG ?_;first |(refine LOps.gT rfl rfl rfl ?_) |(refine LOps.gF rfl rfl rfl ?_) |(refine LOps.gC rfl rfl rfl (fun h=>?_) (fun h=>?_))) |(refine LOps.ev tT_ok rfl ?_)) |(refine kWL ?_;first |(refine WL.seq ?_) |(refine WL.region (by kernel_rfl) ?_) |(refine WL.ret ?_)) |(refine lthen_n ?_) |(refine LPost.r1 (r := .tmp 4) (.inl rfl) (Res1.tmp rfl) ?_) |(refine PureR.mk ?_)
 all_goals simp_all [like]
theorem specl17If_t (ty:Int) (c:Bool) (s:S):VCalls Try.prog 70 [.int .i64 ty,.bool c] s (fun v s'=>v=tyV (if c then ty else 0,c)∧s'=s):=by
 cases c
 all_goals
   refine LCalls.pure Try.func70 rfl (by kernel_rfl) (by simp) ?_
   repeat' first |(refine kOps ?_;first |(refine LOps.nil ?_) |(refine LOps.ev tT_ok rfl ?_)) |(refine kWL ?_;first |(refine WL.seq ?_) |(refine WL.region (by kernel_rfl) ?_) |(refine WL.skip ?_) |(refine WL.ret ?_) |(refine kCond ?_;first |(refine WL.condT rfl ?_) |(refine WL.condF rfl ?_))) |(refine lthen_n ?_) |(refine lthen_r ?_) |(refine LPost.r2 (r := .tmp 4) (r' := .tmp 5) (.inl rfl) (Res1.tmp rfl) (Res1.tmp rfl) ?_) |(refine PureR.mk ?_)
   rfl
theorem implisType_t (k:Int) (s:S):VCalls Try.prog 151 [.int .i64 k] s (fun v s'=>v = .bool (isTy k)∧s'=s):=by
 refine LCalls.pure Try.func151 rfl (by kernel_rfl) (by simp) ?_
 repeat' first |(refine kOps ?_;first |(refine LOps.nil ?_) |(refine kG ?_;first |(refine LOps.gT rfl rfl rfl ?_) |(refine LOps.gF rfl rfl rfl ?_) |(refine LOps.gC rfl rfl rfl (fun h=>?_) (fun h=>?_))) |(refine LOps.ev tT_ok rfl ?_)) |(refine kWL ?_;first |(refine WL.seq ?_) |(refine WL.region (by kernel_rfl) ?_) |(refine WL.ret ?_)) |(refine lthen_n ?_) |(refine LPost.r1 (r := .tmp 2) (.inl rfl) (Res1.tmp rfl) ?_) |(refine PureR.mk ?_)
 all_goals (simp_all [isTy,inR] <;> omega)
theorem specl17Type_t (k:Int) (s:S):VCalls Try.prog 115 [.int .i64 k] s (fun v s'=>v = .bool (isTy k)∧s'=s):=by
 refine LCalls.pure Try.func115 rfl (by kernel_rfl) (by simp) ?_
 repeat' first |(refine kOps ?_;first |(refine LOps.nil ?_) |(refine LOps.ev tT_ok rfl ?_) |(refine kCallN 36 ?_;first |(refine LOps.ans (AnsL.callP rfl rfl rfl (ok36) (specl1In_v _ _ _ _)) ?_))) |(refine kWL ?_;first |(refine WL.seq ?_) |(refine WL.region (by kernel_rfl) ?_) |(refine WL.ret ?_)) |(refine lthen_n ?_) |(refine LPost.r1 (r := .tmp 2) (.inl rfl) (Res1.tmp rfl) ?_) |(refine PureR.mk ?_)
 all_goals simp_all [isTy]
theorem implMeet_t (a b:Int) (s:S):VCalls Try.prog 139 [.int .i64 a,.int .i64 b] s (fun v s'=>v=tyV (meetT a b)∧s'=s):=by
 have hA:=fun t=>implisType_t a t
 have hB:=fun t=>implisType_t b t
 unfold meetT
 cases ha:isTy a <;> rw [ha] at hA
 all_goals cases hb:isTy b <;> rw [hb] at hB
 all_goals by_cases h0:a=0
 all_goals by_cases h1:b=0
 all_goals by_cases h2:a=b
 all_goals
   refine LCalls.pure Try.func139 rfl (by kernel_rfl) (by simp) ?_
   repeat' first |(refine kOps ?_;first |(refine LOps.nil ?_) |(refine kG ?_;first |(refine LOps.gT rfl rfl rfl ?_) |(refine LOps.gF rfl rfl rfl ?_) |(refine LOps.gD true rfl rfl rfl ?_ ?_;(focus (first |(exact decide_eq_true (by assumption))))) |(refine LOps.gD false rfl rfl rfl ?_ ?_;(focus (first |(exact decide_eq_false (by assumption)))))) |(refine LOps.ev tT_ok rfl ?_) |(refine kCallN 151 ?_;first |(refine LOps.ans (AnsL.callP rfl rfl rfl (ok151) (hA _)) ?_) |(refine LOps.ans (AnsL.callP rfl rfl rfl (ok151) (hB _)) ?_))) |(refine kWL ?_;first |(refine WL.seq ?_) |(refine WL.region (by kernel_rfl) ?_) |(refine WL.block ?_) |(refine WL.skip ?_) |(refine WL.ret ?_) |(refine kCond ?_;first |(refine WL.condT rfl ?_) |(refine WL.condF rfl ?_) |(refine WL.condT' rfl ?_ ?_;(focus (first |(exact decide_eq_true (by assumption)) |(simp <;> omega)))) |(refine WL.condF' rfl ?_ ?_;(focus (first |(exact decide_eq_false (by assumption))))))) |(refine lthen_n ?_) |(refine lthen_r ?_) |(refine lblock_n ?_) |(refine lblock_r ?_) |(refine LPost.r2 (r := .tmp 4) (r' := .tmp 5) (.inl rfl) (Res1.tmp rfl) (Res1.tmp rfl) ?_) |(refine PureR.mk ?_)
 all_goals simp_all [tyV]
theorem specMeet_t (a b:Int) (s:S):VCalls Try.prog 116 [.int .i64 a,.int .i64 b] s (fun v s'=>v=tyV (meetT a b)∧s'=s):=by
 have hA:=fun t=>specl17Type_t a t
 have hB:=fun t=>specl17Type_t b t
 unfold meetT
 cases ha:isTy a <;> rw [ha] at hA
 all_goals cases hb:isTy b <;> rw [hb] at hB
 all_goals by_cases h0:a=0
 all_goals by_cases h1:b=0
 all_goals by_cases h2:a=b
 all_goals
   refine LCalls.pure Try.func116 rfl (by kernel_rfl) (by simp) ?_
   repeat' first |(refine kOps ?_;first |(refine LOps.nil ?_) |(refine kG ?_;first |(refine LOps.gT rfl rfl rfl ?_) |(refine LOps.gF rfl rfl rfl ?_) |(refine LOps.gD true rfl rfl rfl ?_ ?_;(focus (first |(exact decide_eq_true (by assumption))))) |(refine LOps.gD false rfl rfl rfl ?_ ?_;(focus (first |(exact decide_eq_false (by assumption)))))) |(refine LOps.ev tT_ok rfl ?_) |(refine kCallN 115 ?_;first |(refine LOps.ans (AnsL.callP rfl rfl rfl (ok115) (hA _)) ?_) |(refine LOps.ans (AnsL.callP rfl rfl rfl (ok115) (hB _)) ?_))) |(refine kWL ?_;first |(refine WL.seq ?_) |(refine WL.region (by kernel_rfl) ?_) |(refine WL.skip ?_) |(refine WL.ret ?_) |(refine kCond ?_;first |(refine WL.condT rfl ?_) |(refine WL.condF rfl ?_) |(refine WL.condT' rfl ?_ ?_;(focus (first |(exact decide_eq_true (by assumption)) |(simp <;> omega)))) |(refine WL.condF' rfl ?_ ?_;(focus (first |(exact decide_eq_false (by assumption))))))) |(refine lthen_n ?_) |(refine lthen_r ?_) |(refine LPost.r2 (r := .tmp 4) (r' := .tmp 5) (.inl rfl) (Res1.tmp rfl) (Res1.tmp rfl) ?_) |(refine PureR.mk ?_)
 all_goals simp_all [tyV]
theorem implBinType_t (op a b:Int) (s:S):VCalls Try.prog 109 [.int .i64 op,.int .i64 a,.int .i64 b] s (fun v s'=>v=tyV (binT op a b)∧s'=s):=by
 by_cases h0:op<1
 · have hin:inR op 1 14=false:=by simp [inR];omega
   refine LCalls.pure Try.func109 rfl (by kernel_rfl) (by simp) ?_
   repeat' first |(refine kOps ?_;first |(refine LOps.nil ?_) |(refine kG ?_;first |(refine LOps.gF rfl rfl rfl ?_) |(refine LOps.gD true rfl rfl rfl ?_ ?_;(focus (first |(exact decide_eq_true (by assumption)))))) |(refine LOps.ev tT_ok rfl ?_)) |(refine kWL ?_;first |(refine WL.seq ?_) |(refine WL.region (by kernel_rfl) ?_) |(refine WL.block ?_) |(refine WL.skip ?_) |(refine WL.ret ?_) |(refine kCond ?_;first |(refine WL.condT rfl ?_))) |(refine lthen_n ?_) |(refine lthen_r ?_) |(refine lblock_n ?_) |(refine LPost.r2 (r := .tmp 6) (r' := .tmp 7) (.inl rfl) (Res1.tmp rfl) (Res1.tmp rfl) ?_) |(refine PureR.mk ?_)
   simp [binT,binOk,hin,tyV]
 by_cases h1:14<op
 · have hin:inR op 1 14=false:=by simp [inR];omega
   refine LCalls.pure Try.func109 rfl (by kernel_rfl) (by simp) ?_
   repeat' first |(refine kOps ?_;first |(refine LOps.nil ?_) |(refine kG ?_;first |(refine LOps.gT rfl rfl rfl ?_) |(refine LOps.gD false rfl rfl rfl ?_ ?_;(focus (first |(exact decide_eq_false (by assumption)))))) |(refine LOps.ev tT_ok rfl ?_)) |(refine kWL ?_;first |(refine WL.seq ?_) |(refine WL.region (by kernel_rfl) ?_) |(refine WL.block ?_) |(refine WL.skip ?_) |(refine WL.ret ?_) |(refine kCond ?_;first |(refine WL.condT rfl ?_) |(refine WL.condT' rfl ?_ ?_;(focus (first |(exact decide_eq_true (by assumption))))))) |(refine lthen_n ?_) |(refine lthen_r ?_) |(refine lblock_n ?_) |(refine LPost.r2 (r := .tmp 6) (r' := .tmp 7) (.inl rfl) (Res1.tmp rfl) (Res1.tmp rfl) ?_) |(refine PureR.mk ?_)
   simp [binT,binOk,hin,tyV]
 have hin:inR op 1 14=true:=by simp [inR];omega
 by_cases h2:op≤2
 · have hA:=fun t=>implTruthy_t a t
   have hB:=fun t=>implTruthy_t b t
   cases ha:tru a <;> rw [ha] at hA
   all_goals cases hb:tru b <;> rw [hb] at hB
   all_goals
     refine LCalls.pure Try.func109 rfl (by kernel_rfl) (by simp) ?_
     repeat' first |(refine kOps ?_;first |(refine LOps.nil ?_) |(refine kG ?_;first |(refine LOps.gT rfl rfl rfl ?_) |(refine LOps.gF rfl rfl rfl ?_) |(refine LOps.gD false rfl rfl rfl ?_ ?_;(focus (first |(exact decide_eq_false (by assumption)))))) |(refine LOps.ev tT_ok rfl ?_) |(refine kCallN 137 ?_;first |(refine LOps.ans (AnsL.callP rfl rfl rfl (ok137) (hA _)) ?_) |(refine LOps.ans (AnsL.callP rfl rfl rfl (ok137) (hB _)) ?_))) |(refine kWL ?_;first |(refine WL.seq ?_) |(refine WL.region (by kernel_rfl) ?_) |(refine WL.block ?_) |(refine WL.skip ?_) |(refine WL.ret ?_) |(refine kCond ?_;first |(refine WL.condT rfl ?_) |(refine WL.condF rfl ?_) |(refine WL.condT' rfl ?_ ?_;(focus (first |(exact decide_eq_true (by assumption))))) |(refine WL.condF' rfl ?_ ?_;(focus (first |(exact decide_eq_false (by assumption))))))) |(refine lthen_n ?_) |(refine lthen_r ?_) |(refine lblock_n ?_) |(refine LPost.r2 (r := .tmp 6) (r' := .tmp 7) (.inl rfl) (Res1.tmp rfl) (Res1.tmp rfl) ?_) |(refine PureR.mk ?_)
   all_goals simp [binT,binOk,binTy,tyV,hin,h2,ha,hb,show op≤8 by omega]
 by_cases h8:op≤8
 · have hA:=fun t=>implMeet_t a b t
   generalize hm:meetT a b=m at hA
   obtain ⟨m1,m2⟩:=m
   cases m2
   all_goals
     refine LCalls.pure Try.func109 rfl (by kernel_rfl) (by simp) ?_
     repeat' first |(refine kOps ?_;first |(refine LOps.nil ?_) |(refine kG ?_;first |(refine LOps.gT rfl rfl rfl ?_) |(refine LOps.gD false rfl rfl rfl ?_ ?_;(focus (first |(exact decide_eq_false (by assumption)))))) |(refine LOps.ev tT_ok rfl ?_) |(refine kCallN 139 ?_;first |(refine LOps.ans (AnsL.callP rfl rfl rfl (ok139) (hA _)) ?_))) |(refine kWL ?_;first |(refine WL.seq ?_) |(refine WL.region (by kernel_rfl) ?_) |(refine WL.block ?_) |(refine WL.skip ?_) |(refine WL.ret ?_) |(refine kCond ?_;first |(refine WL.condT rfl ?_) |(refine WL.condF rfl ?_) |(refine WL.condT' rfl ?_ ?_;(focus (first |(exact decide_eq_true (by assumption))))) |(refine WL.condF' rfl ?_ ?_;(focus (first |(exact decide_eq_false (by assumption))))))) |(refine lthen_n ?_) |(refine lthen_r ?_) |(refine lblock_n ?_) |(refine LPost.r2 (r := .tmp 6) (r' := .tmp 7) (.inl rfl) (Res1.tmp rfl) (Res1.tmp rfl) ?_) |(refine PureR.mk ?_)
   all_goals simp [binT,binOk,binTy,tyV,hin,h2,h8,hm]
 by_cases h9:op=9
 · subst h9
   have hA:=fun t=>implareOf_t 2 a b t
   cases hm:(like a 2&&like b 2) <;> rw [hm] at hA
   all_goals
     refine LCalls.pure Try.func109 rfl (by kernel_rfl) (by simp) ?_
     repeat' first |(refine kOps ?_;first |(refine LOps.nil ?_) |(refine kG ?_;first |(refine LOps.gT rfl rfl rfl ?_)) |(refine LOps.ev tT_ok rfl ?_) |(refine kCallN 138 ?_;first |(refine LOps.ans (AnsL.callP rfl rfl rfl (ok138) (hA _)) ?_))) |(refine kWL ?_;first |(refine WL.seq ?_) |(refine WL.region (by kernel_rfl) ?_) |(refine WL.block ?_) |(refine WL.skip ?_) |(refine WL.ret ?_) |(refine kCond ?_;first |(refine WL.condT rfl ?_) |(refine WL.condF rfl ?_))) |(refine lthen_n ?_) |(refine lthen_r ?_) |(refine lblock_n ?_) |(refine LPost.r2 (r := .tmp 6) (r' := .tmp 7) (.inl rfl) (Res1.tmp rfl) (Res1.tmp rfl) ?_) |(refine PureR.mk ?_)
   all_goals simp [binT,binOk,binTy,tyV,hin,hm]
 · have hA:=fun t=>implareOf_t 1 a b t
   cases hm:(like a 1&&like b 1) <;> rw [hm] at hA
   all_goals
     refine LCalls.pure Try.func109 rfl (by kernel_rfl) (by simp) ?_
     repeat' first |(refine kOps ?_;first |(refine LOps.nil ?_) |(refine kG ?_;first |(refine LOps.gT rfl rfl rfl ?_) |(refine LOps.gD false rfl rfl rfl ?_ ?_;(focus (first |(exact decide_eq_false (by assumption)))))) |(refine LOps.ev tT_ok rfl ?_) |(refine kCallN 138 ?_;first |(refine LOps.ans (AnsL.callP rfl rfl rfl (ok138) (hA _)) ?_))) |(refine kWL ?_;first |(refine WL.seq ?_) |(refine WL.region (by kernel_rfl) ?_) |(refine WL.block ?_) |(refine WL.skip ?_) |(refine WL.ret ?_) |(refine kCond ?_;first |(refine WL.condT rfl ?_) |(refine WL.condF rfl ?_) |(refine WL.condF' rfl ?_ ?_;(focus (first |(exact decide_eq_false (by assumption))))))) |(refine lthen_n ?_) |(refine lthen_r ?_) |(refine lblock_n ?_) |(refine LPost.r2 (r := .tmp 6) (r' := .tmp 7) (.inl rfl) (Res1.tmp rfl) (Res1.tmp rfl) ?_) |(refine PureR.mk ?_)
   all_goals simp [binT,binOk,binTy,tyV,hin,h2,h8,h9,hm]
theorem specBinType_t (op a b:Int) (s:S):VCalls Try.prog 68 [.int .i64 op,.int .i64 a,.int .i64 b] s (fun v s'=>v=tyV (binT op a b)∧s'=s):=by
 have hI:=fun t=>specl1In_v op 1 14 t
 have hA:=fun t=>specl17Type_t a t
 have hB:=fun t=>specl17Type_t b t
 cases hin:inR op 1 14 <;> rw [hin] at hI
 · skip
   refine LCalls.pure Try.func68 rfl (by kernel_rfl) (by simp) ?_
   repeat' first |(refine kOps ?_;first |(refine LOps.nil ?_) |(refine kG ?_;first |(refine LOps.gF rfl rfl rfl ?_)) |(refine LOps.ev tT_ok rfl ?_) |(refine kCallN 36 ?_;first |(refine LOps.ans (AnsL.callP rfl rfl rfl (ok36) (hI _)) ?_))) |(refine kWL ?_;first |(refine WL.seq ?_) |(refine WL.region (by kernel_rfl) ?_) |(refine WL.ret ?_) |(refine kCond ?_;first |(refine WL.condT rfl ?_))) |(refine lthen_n ?_) |(refine lthen_r ?_) |(refine LPost.r2 (r := .tmp 6) (r' := .tmp 7) (.inl rfl) (Res1.tmp rfl) (Res1.tmp rfl) ?_) |(refine PureR.mk ?_)
   simp [binT,binOk,hin,tyV]
 cases ha:isTy a <;> rw [ha] at hA
 · have:binOk op a b=false:=by
     cases h:binOk op a b
     · rfl
     · rw [(binOk_isTy h).1] at ha;cases ha
   refine LCalls.pure Try.func68 rfl (by kernel_rfl) (by simp) ?_
   repeat' first |(refine kOps ?_;first |(refine LOps.nil ?_) |(refine kG ?_;first |(refine LOps.gT rfl rfl rfl ?_) |(refine LOps.gF rfl rfl rfl ?_)) |(refine LOps.ev tT_ok rfl ?_) |(refine kCallN 115 ?_;first |(refine LOps.ans (AnsL.callP rfl rfl rfl (ok115) (hA _)) ?_)) |(refine kCallN 36 ?_;first |(refine LOps.ans (AnsL.callP rfl rfl rfl (ok36) (hI _)) ?_))) |(refine kWL ?_;first |(refine WL.seq ?_) |(refine WL.region (by kernel_rfl) ?_) |(refine WL.ret ?_) |(refine kCond ?_;first |(refine WL.condT rfl ?_))) |(refine lthen_n ?_) |(refine lthen_r ?_) |(refine LPost.r2 (r := .tmp 6) (r' := .tmp 7) (.inl rfl) (Res1.tmp rfl) (Res1.tmp rfl) ?_) |(refine PureR.mk ?_)
   simp [binT,this,tyV]
 cases hb:isTy b <;> rw [hb] at hB
 · have:binOk op a b=false:=by
     cases h:binOk op a b
     · rfl
     · rw [(binOk_isTy h).2] at hb;cases hb
   refine LCalls.pure Try.func68 rfl (by kernel_rfl) (by simp) ?_
   repeat' first |(refine kOps ?_;first |(refine LOps.nil ?_) |(refine kG ?_;first |(refine LOps.gT rfl rfl rfl ?_)) |(refine LOps.ev tT_ok rfl ?_) |(refine kCallN 115 ?_;first |(refine LOps.ans (AnsL.callP rfl rfl rfl (ok115) (hA _)) ?_) |(refine LOps.ans (AnsL.callP rfl rfl rfl (ok115) (hB _)) ?_)) |(refine kCallN 36 ?_;first |(refine LOps.ans (AnsL.callP rfl rfl rfl (ok36) (hI _)) ?_))) |(refine kWL ?_;first |(refine WL.seq ?_) |(refine WL.region (by kernel_rfl) ?_) |(refine WL.ret ?_) |(refine kCond ?_;first |(refine WL.condT rfl ?_))) |(refine lthen_n ?_) |(refine lthen_r ?_) |(refine LPost.r2 (r := .tmp 6) (r' := .tmp 7) (.inl rfl) (Res1.tmp rfl) (Res1.tmp rfl) ?_) |(refine PureR.mk ?_)
   simp [binT,this,tyV]
 by_cases h2:op≤2
 · have hC:=fun t=>specTruthy_t a t
   have hD:=fun t=>specTruthy_t b t
   cases hc:tru a <;> rw [hc] at hC
   all_goals cases hd:tru b <;> rw [hd] at hD
   all_goals
     refine LCalls.pure Try.func68 rfl (by kernel_rfl) (by simp) ?_
     repeat' first |(refine kOps ?_;first |(refine LOps.nil ?_) |(refine kG ?_;first |(refine LOps.gT rfl rfl rfl ?_) |(refine LOps.gF rfl rfl rfl ?_)) |(refine LOps.ev tT_ok rfl ?_) |(refine kCallN 113 ?_;first |(refine LOps.ans (AnsL.callP rfl rfl rfl (ok113) (hC _)) ?_) |(refine LOps.ans (AnsL.callP rfl rfl rfl (ok113) (hD _)) ?_)) |(refine kCallN 115 ?_;first |(refine LOps.ans (AnsL.callP rfl rfl rfl (ok115) (hA _)) ?_) |(refine LOps.ans (AnsL.callP rfl rfl rfl (ok115) (hB _)) ?_)) |(refine kCallN 36 ?_;first |(refine LOps.ans (AnsL.callP rfl rfl rfl (ok36) (hI _)) ?_)) |(refine kCallN 70 ?_;first |(refine LOps.ans (AnsL.callP rfl rfl rfl (ok70) (specl17If_t _ _ _)) ?_))) |(refine kWL ?_;first |(refine WL.seq ?_) |(refine WL.region (by kernel_rfl) ?_) |(refine WL.skip ?_) |(refine WL.ret ?_) |(refine kCond ?_;first |(refine WL.condF rfl ?_) |(refine WL.condT' rfl ?_ ?_;(focus (first |(exact decide_eq_true (by assumption))))))) |(refine lthen_n ?_) |(refine lthen_r ?_) |(refine LPost.r2 (r := .tmp 6) (r' := .tmp 7) (.inl rfl) (Res1.tmp rfl) (Res1.tmp rfl) ?_) |(refine PureR.mk ?_)
   all_goals simp [binT,binOk,binTy,tyV,hin,h2,hc,hd,show op≤8 by omega]
 by_cases h8:op≤8
 · have hM:=fun t=>specMeet_t a b t
   generalize hm:meetT a b=m at hM
   obtain ⟨m1,m2⟩:=m
   cases m2
   all_goals
     refine LCalls.pure Try.func68 rfl (by kernel_rfl) (by simp) ?_
     repeat' first |(refine kOps ?_;first |(refine LOps.nil ?_) |(refine kG ?_;first |(refine LOps.gT rfl rfl rfl ?_)) |(refine LOps.ev tT_ok rfl ?_) |(refine kCallN 115 ?_;first |(refine LOps.ans (AnsL.callP rfl rfl rfl (ok115) (hA _)) ?_) |(refine LOps.ans (AnsL.callP rfl rfl rfl (ok115) (hB _)) ?_)) |(refine kCallN 116 ?_;first |(refine LOps.ans (AnsL.callP rfl rfl rfl (ok116) (hM _)) ?_)) |(refine kCallN 36 ?_;first |(refine LOps.ans (AnsL.callP rfl rfl rfl (ok36) (hI _)) ?_)) |(refine kCallN 70 ?_;first |(refine LOps.ans (AnsL.callP rfl rfl rfl (ok70) (specl17If_t _ _ _)) ?_))) |(refine kWL ?_;first |(refine WL.seq ?_) |(refine WL.region (by kernel_rfl) ?_) |(refine WL.skip ?_) |(refine WL.ret ?_) |(refine kCond ?_;first |(refine WL.condF rfl ?_) |(refine WL.condT' rfl ?_ ?_;(focus (first |(exact decide_eq_true (by assumption))))) |(refine WL.condF' rfl ?_ ?_;(focus (first |(exact decide_eq_false (by assumption))))))) |(refine lthen_n ?_) |(refine lthen_r ?_) |(refine LPost.r2 (r := .tmp 6) (r' := .tmp 7) (.inl rfl) (Res1.tmp rfl) (Res1.tmp rfl) ?_) |(refine PureR.mk ?_)
   all_goals simp [binT,binOk,binTy,tyV,hin,h2,h8,hm]
 by_cases h9:op=9
 · subst h9
   have hC:=fun t=>specl17Like_t a 2 t
   have hD:=fun t=>specl17Like_t b 2 t
   cases hc:like a 2 <;> rw [hc] at hC
   all_goals cases hd:like b 2 <;> rw [hd] at hD
   all_goals
     refine LCalls.pure Try.func68 rfl (by kernel_rfl) (by simp) ?_
     repeat' first |(refine kOps ?_;first |(refine LOps.nil ?_) |(refine kG ?_;first |(refine LOps.gT rfl rfl rfl ?_) |(refine LOps.gF rfl rfl rfl ?_)) |(refine LOps.ev tT_ok rfl ?_) |(refine kCallN 114 ?_;first |(refine LOps.ans (AnsL.callP rfl rfl rfl (ok114) (hC _)) ?_) |(refine LOps.ans (AnsL.callP rfl rfl rfl (ok114) (hD _)) ?_)) |(refine kCallN 115 ?_;first |(refine LOps.ans (AnsL.callP rfl rfl rfl (ok115) (hA _)) ?_) |(refine LOps.ans (AnsL.callP rfl rfl rfl (ok115) (hB _)) ?_)) |(refine kCallN 36 ?_;first |(refine LOps.ans (AnsL.callP rfl rfl rfl (ok36) (hI _)) ?_)) |(refine kCallN 70 ?_;first |(refine LOps.ans (AnsL.callP rfl rfl rfl (ok70) (specl17If_t _ _ _)) ?_))) |(refine kWL ?_;first |(refine WL.seq ?_) |(refine WL.region (by kernel_rfl) ?_) |(refine WL.skip ?_) |(refine WL.ret ?_) |(refine kCond ?_;first |(refine WL.condT rfl ?_) |(refine WL.condF rfl ?_))) |(refine lthen_n ?_) |(refine LPost.r2 (r := .tmp 6) (r' := .tmp 7) (.inl rfl) (Res1.tmp rfl) (Res1.tmp rfl) ?_) |(refine PureR.mk ?_)
   all_goals simp [binT,binOk,binTy,tyV,hin,hc,hd]
 · have hC:=fun t=>specl17Like_t a 1 t
   have hD:=fun t=>specl17Like_t b 1 t
   cases hc:like a 1 <;> rw [hc] at hC
   all_goals cases hd:like b 1 <;> rw [hd] at hD
   all_goals
     refine LCalls.pure Try.func68 rfl (by kernel_rfl) (by simp) ?_
     repeat' first |(refine kOps ?_;first |(refine LOps.nil ?_) |(refine kG ?_;first |(refine LOps.gT rfl rfl rfl ?_) |(refine LOps.gF rfl rfl rfl ?_)) |(refine LOps.ev tT_ok rfl ?_) |(refine kCallN 114 ?_;first |(refine LOps.ans (AnsL.callP rfl rfl rfl (ok114) (hC _)) ?_) |(refine LOps.ans (AnsL.callP rfl rfl rfl (ok114) (hD _)) ?_)) |(refine kCallN 115 ?_;first |(refine LOps.ans (AnsL.callP rfl rfl rfl (ok115) (hA _)) ?_) |(refine LOps.ans (AnsL.callP rfl rfl rfl (ok115) (hB _)) ?_)) |(refine kCallN 36 ?_;first |(refine LOps.ans (AnsL.callP rfl rfl rfl (ok36) (hI _)) ?_)) |(refine kCallN 70 ?_;first |(refine LOps.ans (AnsL.callP rfl rfl rfl (ok70) (specl17If_t _ _ _)) ?_))) |(refine kWL ?_;first |(refine WL.seq ?_) |(refine WL.region (by kernel_rfl) ?_) |(refine WL.skip ?_) |(refine WL.ret ?_) |(refine kCond ?_;first |(refine WL.condF rfl ?_) |(refine WL.condF' rfl ?_ ?_;(focus (first |(exact decide_eq_false (by assumption))))))) |(refine lthen_n ?_) |(refine LPost.r2 (r := .tmp 6) (r' := .tmp 7) (.inl rfl) (Res1.tmp rfl) (Res1.tmp rfl) ?_) |(refine PureR.mk ?_)
   all_goals simp [binT,binOk,binTy,tyV,hin,h2,h8,h9,hc,hd]
theorem implUnType_t (op a:Int) (s:S):VCalls Try.prog 108 [.int .i64 op,.int .i64 a] s (fun v s'=>v=tyV (unT2 op a)∧s'=s):=by
 have hA:=fun t=>implTruthy_t a t
 have hB:=fun t=>implareOf_t 1 a a t
 rw [Bool.and_self] at hB
 unfold unT2
 cases ha:tru a <;> rw [ha] at hA
 all_goals cases hb:like a 1 <;> rw [hb] at hB
 all_goals by_cases h1:op=15
 all_goals by_cases h2:op=16
 all_goals
   refine LCalls.pure Try.func108 rfl (by kernel_rfl) (by simp) ?_
   repeat' first |(refine kOps ?_;first |(refine LOps.nil ?_) |(refine kG ?_;first |(refine LOps.gT rfl rfl rfl ?_) |(refine LOps.gF rfl rfl rfl ?_) |(refine LOps.gD true rfl rfl rfl ?_ ?_;(focus (first |(exact decide_eq_true (by assumption))))) |(refine LOps.gD false rfl rfl rfl ?_ ?_;(focus (first |(exact decide_eq_false (by assumption)))))) |(refine LOps.ev tT_ok rfl ?_) |(refine kCallN 137 ?_;first |(refine LOps.ans (AnsL.callP rfl rfl rfl (ok137) (hA _)) ?_)) |(refine kCallN 138 ?_;first |(refine LOps.ans (AnsL.callP rfl rfl rfl (ok138) (hB _)) ?_))) |(refine kWL ?_;first |(refine WL.seq ?_) |(refine WL.region (by kernel_rfl) ?_) |(refine WL.block ?_) |(refine WL.skip ?_) |(refine WL.ret ?_) |(refine kCond ?_;first |(refine WL.condT rfl ?_) |(refine WL.condF rfl ?_))) |(refine lthen_n ?_) |(refine lthen_r ?_) |(refine lblock_n ?_) |(refine lblock_r ?_) |(refine LPost.r2 (r := .tmp 4) (r' := .tmp 5) (.inl rfl) (Res1.tmp rfl) (Res1.tmp rfl) ?_) |(refine PureR.mk ?_)
 all_goals simp_all [tyV]
theorem specUnType_t (op a:Int) (s:S):VCalls Try.prog 67 [.int .i64 op,.int .i64 a] s (fun v s'=>v=tyV (unT2 op a)∧s'=s):=by
 have hA:=fun t=>specTruthy_t a t
 have hB:=fun t=>specl17Like_t a 1 t
 unfold unT2
 cases ha:tru a <;> rw [ha] at hA
 all_goals cases hb:like a 1 <;> rw [hb] at hB
 all_goals by_cases h1:op=15
 all_goals by_cases h2:op=16
 all_goals
   refine LCalls.pure Try.func67 rfl (by kernel_rfl) (by simp) ?_
   repeat' first |(refine kOps ?_;first |(refine LOps.nil ?_) |(refine LOps.ev tT_ok rfl ?_) |(refine kCallN 113 ?_;first |(refine LOps.ans (AnsL.callP rfl rfl rfl (ok113) (hA _)) ?_)) |(refine kCallN 114 ?_;first |(refine LOps.ans (AnsL.callP rfl rfl rfl (ok114) (hB _)) ?_)) |(refine kCallN 70 ?_;first |(refine LOps.ans (AnsL.callP rfl rfl rfl (ok70) (specl17If_t _ _ _)) ?_))) |(refine kWL ?_;first |(refine WL.seq ?_) |(refine WL.region (by kernel_rfl) ?_) |(refine WL.block ?_) |(refine WL.skip ?_) |(refine WL.ret ?_) |(refine kCond ?_;first |(refine WL.condT' rfl ?_ ?_;(focus (first |(exact decide_eq_true (by assumption))))) |(refine WL.condF' rfl ?_ ?_;(focus (first |(exact decide_eq_false (by assumption))))))) |(refine lthen_n ?_) |(refine lthen_r ?_) |(refine lblock_n ?_) |(refine lblock_r ?_) |(refine LPost.r2 (r := .tmp 4) (r' := .tmp 5) (.inl rfl) (Res1.tmp rfl) (Res1.tmp rfl) ?_) |(refine PureR.mk ?_)
 all_goals simp_all [tyV]
end Go.Proofs.Ytolhegocbkckdaa
