/-
 Types of operators, of the program and of the reference, in the later logic. Own work; no condition.
-/
import Derived.Test.YtolhegocbkckdaaGreatMg15
namespace Go.Proofs.YtolhegocbkckdaaGreat
open Go
set_option linter.unusedSimpArgs false
set_option linter.unusedVariables false
def dY (a:Int):Bool:=jw a 0 3
def Q0 (a:Int):Bool:=decide (a=0) || decide (a=3)
def like (a ty:Int):Bool:=decide (a=0) || decide (a=ty)
def fK (a b:Int):Int × Bool:=if dY a=true∧dY b=true then (if a=0 then (b,true) else if b=0∨a=b then (a,true) else (0,false)) else (0,false)
def yB (op a b:Int):Bool:=jw op 1 14&&(if op≤2 then Q0 a&&Q0 b else if op≤8 then (fK a b).2 else if op=9 then like a 2&&like b 2 else like a 1&&like b 1)
def ou (op:Int):Int:=if op≤8 then 3 else if op=9 then 2 else 1
def bH (op a b:Int):Int × Bool:=if yB op a b=true then (ou op,true) else (0,false)
def Qd (op a:Int):Int × Bool:=if op=15∧Q0 a=true then (3,true) else if op=16∧like a 1=true then (1,true) else (0,false)
theorem Jr {a:Int} (h:Q0 a=true):dY a=true:=by
 simp only [Q0,dY,jw,Bool.or_eq_true,Bool.and_eq_true,decide_eq_true_eq] at *;omega
theorem iD {a ty:Int} (h:like a ty=true) (h1:0≤ty) (h2:ty≤3):dY a=true:=by
 simp only [like,dY,jw,Bool.or_eq_true,Bool.and_eq_true,decide_eq_true_eq] at *;omega
theorem Y7 {a b:Int} (h:(fK a b).2=true):dY a=true∧dY b=true:=by
 unfold fK at h
 split at h
 · assumption
 · cases h
theorem ZV {op a b:Int} (h:yB op a b=true):dY a=true∧dY b=true:=by
 unfold yB at h
 rw [Bool.and_eq_true] at h
 have h:=h.2
 split at h
 · rw [Bool.and_eq_true] at h;exact ⟨Jr h.1,Jr h.2⟩
 split at h
 · exact Y7 h
 split at h
 · rw [Bool.and_eq_true] at h;exact ⟨iD h.1 (by omega) (by omega),iD h.2 (by omega) (by omega)⟩
 · rw [Bool.and_eq_true] at h;exact ⟨iD h.1 (by omega) (by omega),iD h.2 (by omega) (by omega)⟩
def bP (r:Int × Bool):V := .jY [.int .i64 r.1,.bool r.2]
@[simp] theorem Mt (r:Int × Bool):(bP r).dat=true:=by simp [bP]
theorem av (k:Int) (s:S):VCalls Tryz.prog 58 [.int .i64 k] s (fun v s'=>v = .bool (Q0 k)∧s'=s):=by
 refine zi.pure Tryz.func58 rfl (by kernel_rfl) (by simp) ?_
 repeat' first|(refine zf ?_;first|(refine zq.nil ?_)|(refine kG ?_;first|(refine zq.gT rfl rfl rfl ?_)|(refine zq.gF rfl rfl rfl ?_)|(refine zq.gC rfl rfl rfl (fun h=>?_) (fun h=>?_)))|(refine zq.ev zx rfl ?_))|(refine zH ?_;first|(refine WL.seq ?_)|(refine WL.region (by kernel_rfl) ?_)|(refine WL.ret ?_))|(refine zw ?_)|(refine zh.r1 (r := .tmp 2) (.inl rfl) (zn.tmp rfl) ?_)|(refine zX.mk ?_)
 all_goals simp_all [Q0]
theorem ay (k:Int) (s:S):VCalls Tryz.prog 95 [.int .i64 k] s (fun v s'=>v = .bool (Q0 k)∧s'=s):=by
 refine zi.pure Tryz.func95 rfl (by kernel_rfl) (by simp) ?_
 repeat' first|(refine zf ?_;first|(refine zq.nil ?_)|(refine kG ?_;first|(refine zq.gT rfl rfl rfl ?_)|(refine zq.gF rfl rfl rfl ?_)|(refine zq.gC rfl rfl rfl (fun h=>?_) (fun h=>?_)))|(refine zq.ev zx rfl ?_))|(refine zH ?_;first|(refine WL.seq ?_)|(refine WL.region (by kernel_rfl) ?_)|(refine WL.ret ?_))|(refine zw ?_)|(refine zh.r1 (r := .tmp 2) (.inl rfl) (zn.tmp rfl) ?_)|(refine zX.mk ?_)
 all_goals simp_all [Q0]
theorem gM (ty a b:Int) (s:S):VCalls Tryz.prog 107 [.int .i64 ty,.int .i64 a,.int .i64 b] s (fun v s'=>v = .bool (like a ty&&like b ty)∧s'=s):=by
 refine zi.pure Tryz.func107 rfl (by kernel_rfl) (by simp) ?_
 repeat' first|(refine zf ?_;first|(refine zq.nil ?_)|(refine kG ?_;first|(refine zq.gT rfl rfl rfl ?_)|(refine zq.gF rfl rfl rfl ?_)|(refine zq.gU rfl rfl ?_)|(refine zq.gC rfl rfl rfl (fun h=>?_) (fun h=>?_)))|(refine zq.ev zx rfl ?_))|(refine zH ?_;first|(refine WL.seq ?_)|(refine WL.region (by kernel_rfl) ?_)|(refine WL.ret ?_))|(refine zw ?_)|(refine zh.r1 (r := .tmp 6) (.inl rfl) (zn.tmp rfl) ?_)|(refine zX.mk ?_)
 all_goals simp_all [like]
theorem wC (k ty:Int) (s:S):VCalls Tryz.prog 110 [.int .i64 k,.int .i64 ty] s (fun v s'=>v = .bool (like k ty)∧s'=s):=by
 refine zi.pure Tryz.func110 rfl (by kernel_rfl) (by simp) ?_
 repeat' first|(refine zf ?_;first|(refine zq.nil ?_)|(refine kG ?_;first|(refine zq.gT rfl rfl rfl ?_)|(refine zq.gF rfl rfl rfl ?_)|(refine zq.gC rfl rfl rfl (fun h=>?_) (fun h=>?_)))|(refine zq.ev zx rfl ?_))|(refine zH ?_;first|(refine WL.seq ?_)|(refine WL.region (by kernel_rfl) ?_)|(refine WL.ret ?_))|(refine zw ?_)|(refine zh.r1 (r := .tmp 4) (.inl rfl) (zn.tmp rfl) ?_)|(refine zX.mk ?_)
 all_goals simp_all [like]
theorem j5 (ty:Int) (c:Bool) (s:S):VCalls Tryz.prog 99 [.int .i64 ty,.bool c] s (fun v s'=>v=bP (if c then ty else 0,c)∧s'=s):=by
 cases c
 all_goals
   refine zi.pure Tryz.func99 rfl (by kernel_rfl) (by simp) ?_
   repeat' first|(refine zf ?_;first|(refine zq.nil ?_)|(refine zq.ev zx rfl ?_))|(refine zH ?_;first|(refine WL.seq ?_)|(refine WL.region (by kernel_rfl) ?_)|(refine WL.skip ?_)|(refine WL.ret ?_)|(refine zu ?_;first|(refine WL.qb rfl ?_)|(refine WL.qQ rfl ?_)))|(refine zw ?_)|(refine zZ ?_)|(refine zh.r2 (r := .tmp 4) (r' := .tmp 5) (.inl rfl) (zn.tmp rfl) (zn.tmp rfl) ?_)|(refine zX.mk ?_)
   rfl
theorem og (k:Int) (s:S):VCalls Tryz.prog 121 [.int .i64 k] s (fun v s'=>v = .bool (dY k)∧s'=s):=by
 refine zi.pure Tryz.func121 rfl (by kernel_rfl) (by simp) ?_
 repeat' first|(refine zf ?_;first|(refine zq.nil ?_)|(refine kG ?_;first|(refine zq.gT rfl rfl rfl ?_)|(refine zq.gF rfl rfl rfl ?_)|(refine zq.gC rfl rfl rfl (fun h=>?_) (fun h=>?_)))|(refine zq.ev zx rfl ?_))|(refine zH ?_;first|(refine WL.seq ?_)|(refine WL.region (by kernel_rfl) ?_)|(refine WL.ret ?_))|(refine zw ?_)|(refine zh.r1 (r := .tmp 2) (.inl rfl) (zn.tmp rfl) ?_)|(refine zX.mk ?_)
 all_goals (simp_all [dY,jw] <;> omega)
theorem uy (k:Int) (s:S):VCalls Tryz.prog 111 [.int .i64 k] s (fun v s'=>v = .bool (dY k)∧s'=s):=by
 refine zi.pure Tryz.func111 rfl (by kernel_rfl) (by simp) ?_
 repeat' first|(refine zf ?_;first|(refine zq.nil ?_)|(refine zq.ev zx rfl ?_)|(refine zy 27 ?_;first|(refine zq.ans (zk.ze rfl rfl rfl (jO) (q9 _ _ _ _)) ?_)))|(refine zH ?_;first|(refine WL.seq ?_)|(refine WL.region (by kernel_rfl) ?_)|(refine WL.ret ?_))|(refine zw ?_)|(refine zh.r1 (r := .tmp 2) (.inl rfl) (zn.tmp rfl) ?_)|(refine zX.mk ?_)
 all_goals simp_all [dY]
theorem ZW (a b:Int) (s:S):VCalls Tryz.prog 108 [.int .i64 a,.int .i64 b] s (fun v s'=>v=bP (fK a b)∧s'=s):=by
 have hA:=fun t=>og a t
 have hB:=fun t=>og b t
 unfold fK
 cases ha:dY a <;> rw [ha] at hA
 all_goals cases hb:dY b <;> rw [hb] at hB
 all_goals by_cases h0:a=0
 all_goals by_cases h1:b=0
 all_goals by_cases h2:a=b
 all_goals
   refine zi.pure Tryz.func108 rfl (by kernel_rfl) (by simp) ?_
   repeat' first|(refine zf ?_;first|(refine zq.nil ?_)|(refine kG ?_;first|(refine zq.gT rfl rfl rfl ?_)|(refine zq.gF rfl rfl rfl ?_)|(refine zq.gD true rfl rfl rfl ?_ ?_;(focus (first|(exact decide_eq_true (by assumption)))))|(refine zq.gD false rfl rfl rfl ?_ ?_;(focus (first|(exact decide_eq_false (by assumption))))))|(refine zq.ev zx rfl ?_)|(refine zy 121 ?_;first|(refine zq.ans (zk.ze rfl rfl rfl (Dk) (hA _)) ?_)|(refine zq.ans (zk.ze rfl rfl rfl (Dk) (hB _)) ?_)))|(refine zH ?_;first|(refine WL.seq ?_)|(refine WL.region (by kernel_rfl) ?_)|(refine WL.block ?_)|(refine WL.skip ?_)|(refine WL.ret ?_)|(refine zu ?_;first|(refine WL.qb rfl ?_)|(refine WL.qQ rfl ?_)|(refine WL.zJ rfl ?_ ?_;(focus (first|(exact decide_eq_true (by assumption))|(simp <;> omega))))|(refine WL.zY rfl ?_ ?_;(focus (first|(exact decide_eq_false (by assumption)))))))|(refine zw ?_)|(refine zZ ?_)|(refine zQ ?_)|(refine zB ?_)|(refine zh.r2 (r := .tmp 4) (r' := .tmp 5) (.inl rfl) (zn.tmp rfl) (zn.tmp rfl) ?_)|(refine zX.mk ?_)
 all_goals simp_all [bP]
theorem ZY (a b:Int) (s:S):VCalls Tryz.prog 112 [.int .i64 a,.int .i64 b] s (fun v s'=>v=bP (fK a b)∧s'=s):=by
 have hA:=fun t=>uy a t
 have hB:=fun t=>uy b t
 unfold fK
 cases ha:dY a <;> rw [ha] at hA
 all_goals cases hb:dY b <;> rw [hb] at hB
 all_goals by_cases h0:a=0
 all_goals by_cases h1:b=0
 all_goals by_cases h2:a=b
 all_goals
   refine zi.pure Tryz.func112 rfl (by kernel_rfl) (by simp) ?_
   repeat' first|(refine zf ?_;first|(refine zq.nil ?_)|(refine kG ?_;first|(refine zq.gT rfl rfl rfl ?_)|(refine zq.gF rfl rfl rfl ?_)|(refine zq.gD true rfl rfl rfl ?_ ?_;(focus (first|(exact decide_eq_true (by assumption)))))|(refine zq.gD false rfl rfl rfl ?_ ?_;(focus (first|(exact decide_eq_false (by assumption))))))|(refine zq.ev zx rfl ?_)|(refine zy 111 ?_;first|(refine zq.ans (zk.ze rfl rfl rfl (dQ) (hA _)) ?_)|(refine zq.ans (zk.ze rfl rfl rfl (dQ) (hB _)) ?_)))|(refine zH ?_;first|(refine WL.seq ?_)|(refine WL.region (by kernel_rfl) ?_)|(refine WL.skip ?_)|(refine WL.ret ?_)|(refine zu ?_;first|(refine WL.qb rfl ?_)|(refine WL.qQ rfl ?_)|(refine WL.zJ rfl ?_ ?_;(focus (first|(exact decide_eq_true (by assumption))|(simp <;> omega))))|(refine WL.zY rfl ?_ ?_;(focus (first|(exact decide_eq_false (by assumption)))))))|(refine zw ?_)|(refine zZ ?_)|(refine zh.r2 (r := .tmp 4) (r' := .tmp 5) (.inl rfl) (zn.tmp rfl) (zn.tmp rfl) ?_)|(refine zX.mk ?_)
 all_goals simp_all [bP]
theorem Qe (op a b:Int) (s:S):VCalls Tryz.prog 91 [.int .i64 op,.int .i64 a,.int .i64 b] s (fun v s'=>v=bP (bH op a b)∧s'=s):=by
 by_cases h0:op<1
 · have hin : jw op 1 14 = false := by simp [jw]; omega
   refine zi.pure Tryz.func91 rfl (by kernel_rfl) (by simp) ?_
   repeat' first|(refine zf ?_;first|(refine zq.nil ?_)|(refine kG ?_;first|(refine zq.gF rfl rfl rfl ?_)|(refine zq.gD true rfl rfl rfl ?_ ?_;(focus (first|(exact decide_eq_true (by assumption))))))|(refine zq.ev zx rfl ?_))|(refine zH ?_;first|(refine WL.seq ?_)|(refine WL.region (by kernel_rfl) ?_)|(refine WL.block ?_)|(refine WL.skip ?_)|(refine WL.ret ?_)|(refine zu ?_;first|(refine WL.qb rfl ?_)))|(refine zw ?_)|(refine zZ ?_)|(refine zQ ?_)|(refine zh.r2 (r := .tmp 6) (r' := .tmp 7) (.inl rfl) (zn.tmp rfl) (zn.tmp rfl) ?_)|(refine zX.mk ?_)
   simp [bH,yB,hin,bP]
 by_cases h1:14<op
 · have hin : jw op 1 14 = false := by simp [jw]; omega
   refine zi.pure Tryz.func91 rfl (by kernel_rfl) (by simp) ?_
   repeat' first|(refine zf ?_;first|(refine zq.nil ?_)|(refine kG ?_;first|(refine zq.gT rfl rfl rfl ?_)|(refine zq.gD false rfl rfl rfl ?_ ?_;(focus (first|(exact decide_eq_false (by assumption))))))|(refine zq.ev zx rfl ?_))|(refine zH ?_;first|(refine WL.seq ?_)|(refine WL.region (by kernel_rfl) ?_)|(refine WL.block ?_)|(refine WL.skip ?_)|(refine WL.ret ?_)|(refine zu ?_;first|(refine WL.qb rfl ?_)|(refine WL.zJ rfl ?_ ?_;(focus (first|(exact decide_eq_true (by assumption)))))))|(refine zw ?_)|(refine zZ ?_)|(refine zQ ?_)|(refine zh.r2 (r := .tmp 6) (r' := .tmp 7) (.inl rfl) (zn.tmp rfl) (zn.tmp rfl) ?_)|(refine zX.mk ?_)
   simp [bH,yB,hin,bP]
 have hin:jw op 1 14=true:=by simp [jw];omega
 by_cases h2:op≤2
 · have hA := fun t => av a t
   have hB:=fun t=>av b t
   cases ha:Q0 a <;> rw [ha] at hA
   all_goals cases hb:Q0 b <;> rw [hb] at hB
   all_goals
     refine zi.pure Tryz.func91 rfl (by kernel_rfl) (by simp) ?_
     repeat' first|(refine zf ?_;first|(refine zq.nil ?_)|(refine kG ?_;first|(refine zq.gT rfl rfl rfl ?_)|(refine zq.gF rfl rfl rfl ?_)|(refine zq.gD false rfl rfl rfl ?_ ?_;(focus (first|(exact decide_eq_false (by assumption))))))|(refine zq.ev zx rfl ?_)|(refine zy 58 ?_;first|(refine zq.ans (zk.ze rfl rfl rfl (BM) (hA _)) ?_)|(refine zq.ans (zk.ze rfl rfl rfl (BM) (hB _)) ?_)))|(refine zH ?_;first|(refine WL.seq ?_)|(refine WL.region (by kernel_rfl) ?_)|(refine WL.block ?_)|(refine WL.skip ?_)|(refine WL.ret ?_)|(refine zu ?_;first|(refine WL.qb rfl ?_)|(refine WL.qQ rfl ?_)|(refine WL.zJ rfl ?_ ?_;(focus (first|(exact decide_eq_true (by assumption)))))|(refine WL.zY rfl ?_ ?_;(focus (first|(exact decide_eq_false (by assumption)))))))|(refine zw ?_)|(refine zZ ?_)|(refine zQ ?_)|(refine zh.r2 (r := .tmp 6) (r' := .tmp 7) (.inl rfl) (zn.tmp rfl) (zn.tmp rfl) ?_)|(refine zX.mk ?_)
   all_goals simp [bH,yB,ou,bP,hin,h2,ha,hb,show op≤8 by omega]
 by_cases h8:op≤8
 · have hA := fun t => ZW a b t
   generalize hm:fK a b=m at hA
   obtain ⟨m1,m2⟩:=m
   cases m2
   all_goals
     refine zi.pure Tryz.func91 rfl (by kernel_rfl) (by simp) ?_
     repeat' first|(refine zf ?_;first|(refine zq.nil ?_)|(refine kG ?_;first|(refine zq.gT rfl rfl rfl ?_)|(refine zq.gD false rfl rfl rfl ?_ ?_;(focus (first|(exact decide_eq_false (by assumption))))))|(refine zq.ev zx rfl ?_)|(refine zy 108 ?_;first|(refine zq.ans (zk.ze rfl rfl rfl (Aj) (hA _)) ?_)))|(refine zH ?_;first|(refine WL.seq ?_)|(refine WL.region (by kernel_rfl) ?_)|(refine WL.block ?_)|(refine WL.skip ?_)|(refine WL.ret ?_)|(refine zu ?_;first|(refine WL.qb rfl ?_)|(refine WL.qQ rfl ?_)|(refine WL.zJ rfl ?_ ?_;(focus (first|(exact decide_eq_true (by assumption)))))|(refine WL.zY rfl ?_ ?_;(focus (first|(exact decide_eq_false (by assumption)))))))|(refine zw ?_)|(refine zZ ?_)|(refine zQ ?_)|(refine zh.r2 (r := .tmp 6) (r' := .tmp 7) (.inl rfl) (zn.tmp rfl) (zn.tmp rfl) ?_)|(refine zX.mk ?_)
   all_goals simp [bH,yB,ou,bP,hin,h2,h8,hm]
 by_cases h9:op=9
 · subst h9
   have hA:=fun t=>gM 2 a b t
   cases hm:(like a 2&&like b 2) <;> rw [hm] at hA
   all_goals
     refine zi.pure Tryz.func91 rfl (by kernel_rfl) (by simp) ?_
     repeat' first|(refine zf ?_;first|(refine zq.nil ?_)|(refine kG ?_;first|(refine zq.gT rfl rfl rfl ?_))|(refine zq.ev zx rfl ?_)|(refine zy 107 ?_;first|(refine zq.ans (zk.ze rfl rfl rfl (Ak) (hA _)) ?_)))|(refine zH ?_;first|(refine WL.seq ?_)|(refine WL.region (by kernel_rfl) ?_)|(refine WL.block ?_)|(refine WL.skip ?_)|(refine WL.ret ?_)|(refine zu ?_;first|(refine WL.qb rfl ?_)|(refine WL.qQ rfl ?_)))|(refine zw ?_)|(refine zZ ?_)|(refine zQ ?_)|(refine zh.r2 (r := .tmp 6) (r' := .tmp 7) (.inl rfl) (zn.tmp rfl) (zn.tmp rfl) ?_)|(refine zX.mk ?_)
   all_goals simp [bH,yB,ou,bP,hin,hm]
 · have hA := fun t => gM 1 a b t
   cases hm:(like a 1&&like b 1) <;> rw [hm] at hA
   all_goals
     refine zi.pure Tryz.func91 rfl (by kernel_rfl) (by simp) ?_
     repeat' first|(refine zf ?_;first|(refine zq.nil ?_)|(refine kG ?_;first|(refine zq.gT rfl rfl rfl ?_)|(refine zq.gD false rfl rfl rfl ?_ ?_;(focus (first|(exact decide_eq_false (by assumption))))))|(refine zq.ev zx rfl ?_)|(refine zy 107 ?_;first|(refine zq.ans (zk.ze rfl rfl rfl (Ak) (hA _)) ?_)))|(refine zH ?_;first|(refine WL.seq ?_)|(refine WL.region (by kernel_rfl) ?_)|(refine WL.block ?_)|(refine WL.skip ?_)|(refine WL.ret ?_)|(refine zu ?_;first|(refine WL.qb rfl ?_)|(refine WL.qQ rfl ?_)|(refine WL.zY rfl ?_ ?_;(focus (first|(exact decide_eq_false (by assumption)))))))|(refine zw ?_)|(refine zZ ?_)|(refine zQ ?_)|(refine zh.r2 (r := .tmp 6) (r' := .tmp 7) (.inl rfl) (zn.tmp rfl) (zn.tmp rfl) ?_)|(refine zX.mk ?_)
   all_goals simp [bH,yB,ou,bP,hin,h2,h8,h9,hm]
theorem Qf (op a b:Int) (s:S):VCalls Tryz.prog 98 [.int .i64 op,.int .i64 a,.int .i64 b] s (fun v s'=>v=bP (bH op a b)∧s'=s):=by
 have hI:=fun t=>q9 op 1 14 t
 have hA:=fun t=>uy a t
 have hB:=fun t=>uy b t
 cases hin:jw op 1 14 <;> rw [hin] at hI
 · skip
   refine zi.pure Tryz.func98 rfl (by kernel_rfl) (by simp) ?_
   repeat' first|(refine zf ?_;first|(refine zq.nil ?_)|(refine kG ?_;first|(refine zq.gF rfl rfl rfl ?_))|(refine zq.ev zx rfl ?_)|(refine zy 27 ?_;first|(refine zq.ans (zk.ze rfl rfl rfl (jO) (hI _)) ?_)))|(refine zH ?_;first|(refine WL.seq ?_)|(refine WL.region (by kernel_rfl) ?_)|(refine WL.ret ?_)|(refine zu ?_;first|(refine WL.qb rfl ?_)))|(refine zw ?_)|(refine zZ ?_)|(refine zh.r2 (r := .tmp 6) (r' := .tmp 7) (.inl rfl) (zn.tmp rfl) (zn.tmp rfl) ?_)|(refine zX.mk ?_)
   simp [bH,yB,hin,bP]
 cases ha:dY a <;> rw [ha] at hA
 · have:yB op a b=false:=by
     cases h:yB op a b
     · rfl
     · rw [(ZV h).1] at ha;cases ha
   refine zi.pure Tryz.func98 rfl (by kernel_rfl) (by simp) ?_
   repeat' first|(refine zf ?_;first|(refine zq.nil ?_)|(refine kG ?_;first|(refine zq.gT rfl rfl rfl ?_)|(refine zq.gF rfl rfl rfl ?_))|(refine zq.ev zx rfl ?_)|(refine zy 111 ?_;first|(refine zq.ans (zk.ze rfl rfl rfl (dQ) (hA _)) ?_))|(refine zy 27 ?_;first|(refine zq.ans (zk.ze rfl rfl rfl (jO) (hI _)) ?_)))|(refine zH ?_;first|(refine WL.seq ?_)|(refine WL.region (by kernel_rfl) ?_)|(refine WL.ret ?_)|(refine zu ?_;first|(refine WL.qb rfl ?_)))|(refine zw ?_)|(refine zZ ?_)|(refine zh.r2 (r := .tmp 6) (r' := .tmp 7) (.inl rfl) (zn.tmp rfl) (zn.tmp rfl) ?_)|(refine zX.mk ?_)
   simp [bH,this,bP]
 cases hb:dY b <;> rw [hb] at hB
 · have:yB op a b=false:=by
     cases h:yB op a b
     · rfl
     · rw [(ZV h).2] at hb;cases hb
   refine zi.pure Tryz.func98 rfl (by kernel_rfl) (by simp) ?_
   repeat' first|(refine zf ?_;first|(refine zq.nil ?_)|(refine kG ?_;first|(refine zq.gT rfl rfl rfl ?_))|(refine zq.ev zx rfl ?_)|(refine zy 111 ?_;first|(refine zq.ans (zk.ze rfl rfl rfl (dQ) (hA _)) ?_)|(refine zq.ans (zk.ze rfl rfl rfl (dQ) (hB _)) ?_))|(refine zy 27 ?_;first|(refine zq.ans (zk.ze rfl rfl rfl (jO) (hI _)) ?_)))|(refine zH ?_;first|(refine WL.seq ?_)|(refine WL.region (by kernel_rfl) ?_)|(refine WL.ret ?_)|(refine zu ?_;first|(refine WL.qb rfl ?_)))|(refine zw ?_)|(refine zZ ?_)|(refine zh.r2 (r := .tmp 6) (r' := .tmp 7) (.inl rfl) (zn.tmp rfl) (zn.tmp rfl) ?_)|(refine zX.mk ?_)
   simp [bH,this,bP]
 by_cases h2:op≤2
 · have hC := fun t => ay a t
   have hD:=fun t=>ay b t
   cases hc:Q0 a <;> rw [hc] at hC
   all_goals cases hd:Q0 b <;> rw [hd] at hD
   all_goals
     refine zi.pure Tryz.func98 rfl (by kernel_rfl) (by simp) ?_
     repeat' first|(refine zf ?_;first|(refine zq.nil ?_)|(refine kG ?_;first|(refine zq.gT rfl rfl rfl ?_)|(refine zq.gF rfl rfl rfl ?_))|(refine zq.ev zx rfl ?_)|(refine zy 111 ?_;first|(refine zq.ans (zk.ze rfl rfl rfl (dQ) (hA _)) ?_)|(refine zq.ans (zk.ze rfl rfl rfl (dQ) (hB _)) ?_))|(refine zy 27 ?_;first|(refine zq.ans (zk.ze rfl rfl rfl (jO) (hI _)) ?_))|(refine zy 95 ?_;first|(refine zq.ans (zk.ze rfl rfl rfl (Aq) (hC _)) ?_)|(refine zq.ans (zk.ze rfl rfl rfl (Aq) (hD _)) ?_))|(refine zy 99 ?_;first|(refine zq.ans (zk.ze rfl rfl rfl (XE) (j5 _ _ _)) ?_)))|(refine zH ?_;first|(refine WL.seq ?_)|(refine WL.region (by kernel_rfl) ?_)|(refine WL.skip ?_)|(refine WL.ret ?_)|(refine zu ?_;first|(refine WL.qQ rfl ?_)|(refine WL.zJ rfl ?_ ?_;(focus (first|(exact decide_eq_true (by assumption)))))))|(refine zw ?_)|(refine zZ ?_)|(refine zh.r2 (r := .tmp 6) (r' := .tmp 7) (.inl rfl) (zn.tmp rfl) (zn.tmp rfl) ?_)|(refine zX.mk ?_)
   all_goals simp [bH,yB,ou,bP,hin,h2,hc,hd,show op≤8 by omega]
 by_cases h8:op≤8
 · have hM := fun t => ZY a b t
   generalize hm:fK a b=m at hM
   obtain ⟨m1,m2⟩:=m
   cases m2
   all_goals
     refine zi.pure Tryz.func98 rfl (by kernel_rfl) (by simp) ?_
     repeat' first|(refine zf ?_;first|(refine zq.nil ?_)|(refine kG ?_;first|(refine zq.gT rfl rfl rfl ?_))|(refine zq.ev zx rfl ?_)|(refine zy 111 ?_;first|(refine zq.ans (zk.ze rfl rfl rfl (dQ) (hA _)) ?_)|(refine zq.ans (zk.ze rfl rfl rfl (dQ) (hB _)) ?_))|(refine zy 112 ?_;first|(refine zq.ans (zk.ze rfl rfl rfl (Av) (hM _)) ?_))|(refine zy 27 ?_;first|(refine zq.ans (zk.ze rfl rfl rfl (jO) (hI _)) ?_))|(refine zy 99 ?_;first|(refine zq.ans (zk.ze rfl rfl rfl (XE) (j5 _ _ _)) ?_)))|(refine zH ?_;first|(refine WL.seq ?_)|(refine WL.region (by kernel_rfl) ?_)|(refine WL.skip ?_)|(refine WL.ret ?_)|(refine zu ?_;first|(refine WL.qQ rfl ?_)|(refine WL.zJ rfl ?_ ?_;(focus (first|(exact decide_eq_true (by assumption)))))|(refine WL.zY rfl ?_ ?_;(focus (first|(exact decide_eq_false (by assumption)))))))|(refine zw ?_)|(refine zZ ?_)|(refine zh.r2 (r := .tmp 6) (r' := .tmp 7) (.inl rfl) (zn.tmp rfl) (zn.tmp rfl) ?_)|(refine zX.mk ?_)
   all_goals simp [bH,yB,ou,bP,hin,h2,h8,hm]
 by_cases h9:op=9
 · subst h9
   have hC:=fun t=>wC a 2 t
   have hD:=fun t=>wC b 2 t
   cases hc:like a 2 <;> rw [hc] at hC
   all_goals cases hd:like b 2 <;> rw [hd] at hD
   all_goals
     refine zi.pure Tryz.func98 rfl (by kernel_rfl) (by simp) ?_
     repeat' first|(refine zf ?_;first|(refine zq.nil ?_)|(refine kG ?_;first|(refine zq.gT rfl rfl rfl ?_)|(refine zq.gF rfl rfl rfl ?_))|(refine zq.ev zx rfl ?_)|(refine zy 110 ?_;first|(refine zq.ans (zk.ze rfl rfl rfl (Jc) (hC _)) ?_)|(refine zq.ans (zk.ze rfl rfl rfl (Jc) (hD _)) ?_))|(refine zy 111 ?_;first|(refine zq.ans (zk.ze rfl rfl rfl (dQ) (hA _)) ?_)|(refine zq.ans (zk.ze rfl rfl rfl (dQ) (hB _)) ?_))|(refine zy 27 ?_;first|(refine zq.ans (zk.ze rfl rfl rfl (jO) (hI _)) ?_))|(refine zy 99 ?_;first|(refine zq.ans (zk.ze rfl rfl rfl (XE) (j5 _ _ _)) ?_)))|(refine zH ?_;first|(refine WL.seq ?_)|(refine WL.region (by kernel_rfl) ?_)|(refine WL.skip ?_)|(refine WL.ret ?_)|(refine zu ?_;first|(refine WL.qb rfl ?_)|(refine WL.qQ rfl ?_)))|(refine zw ?_)|(refine zh.r2 (r := .tmp 6) (r' := .tmp 7) (.inl rfl) (zn.tmp rfl) (zn.tmp rfl) ?_)|(refine zX.mk ?_)
   all_goals simp [bH,yB,ou,bP,hin,hc,hd]
 · have hC := fun t => wC a 1 t
   have hD:=fun t=>wC b 1 t
   cases hc:like a 1 <;> rw [hc] at hC
   all_goals cases hd:like b 1 <;> rw [hd] at hD
   all_goals
     refine zi.pure Tryz.func98 rfl (by kernel_rfl) (by simp) ?_
     repeat' first|(refine zf ?_;first|(refine zq.nil ?_)|(refine kG ?_;first|(refine zq.gT rfl rfl rfl ?_)|(refine zq.gF rfl rfl rfl ?_))|(refine zq.ev zx rfl ?_)|(refine zy 110 ?_;first|(refine zq.ans (zk.ze rfl rfl rfl (Jc) (hC _)) ?_)|(refine zq.ans (zk.ze rfl rfl rfl (Jc) (hD _)) ?_))|(refine zy 111 ?_;first|(refine zq.ans (zk.ze rfl rfl rfl (dQ) (hA _)) ?_)|(refine zq.ans (zk.ze rfl rfl rfl (dQ) (hB _)) ?_))|(refine zy 27 ?_;first|(refine zq.ans (zk.ze rfl rfl rfl (jO) (hI _)) ?_))|(refine zy 99 ?_;first|(refine zq.ans (zk.ze rfl rfl rfl (XE) (j5 _ _ _)) ?_)))|(refine zH ?_;first|(refine WL.seq ?_)|(refine WL.region (by kernel_rfl) ?_)|(refine WL.skip ?_)|(refine WL.ret ?_)|(refine zu ?_;first|(refine WL.qQ rfl ?_)|(refine WL.zY rfl ?_ ?_;(focus (first|(exact decide_eq_false (by assumption)))))))|(refine zw ?_)|(refine zh.r2 (r := .tmp 6) (r' := .tmp 7) (.inl rfl) (zn.tmp rfl) (zn.tmp rfl) ?_)|(refine zX.mk ?_)
   all_goals simp [bH,yB,ou,bP,hin,h2,h8,h9,hc,hd]
theorem X7 (op a:Int) (s:S):VCalls Tryz.prog 90 [.int .i64 op,.int .i64 a] s (fun v s'=>v=bP (Qd op a)∧s'=s):=by
 have hA:=fun t=>av a t
 have hB:=fun t=>gM 1 a a t
 rw [Bool.and_self] at hB
 unfold Qd
 cases ha:Q0 a <;> rw [ha] at hA
 all_goals cases hb:like a 1 <;> rw [hb] at hB
 all_goals by_cases h1:op=15
 all_goals by_cases h2:op=16
 all_goals
   refine zi.pure Tryz.func90 rfl (by kernel_rfl) (by simp) ?_
   repeat' first|(refine zf ?_;first|(refine zq.nil ?_)|(refine kG ?_;first|(refine zq.gT rfl rfl rfl ?_)|(refine zq.gF rfl rfl rfl ?_)|(refine zq.gD true rfl rfl rfl ?_ ?_;(focus (first|(exact decide_eq_true (by assumption)))))|(refine zq.gD false rfl rfl rfl ?_ ?_;(focus (first|(exact decide_eq_false (by assumption))))))|(refine zq.ev zx rfl ?_)|(refine zy 107 ?_;first|(refine zq.ans (zk.ze rfl rfl rfl (Ak) (hB _)) ?_))|(refine zy 58 ?_;first|(refine zq.ans (zk.ze rfl rfl rfl (BM) (hA _)) ?_)))|(refine zH ?_;first|(refine WL.seq ?_)|(refine WL.region (by kernel_rfl) ?_)|(refine WL.block ?_)|(refine WL.skip ?_)|(refine WL.ret ?_)|(refine zu ?_;first|(refine WL.qb rfl ?_)|(refine WL.qQ rfl ?_)))|(refine zw ?_)|(refine zZ ?_)|(refine zQ ?_)|(refine zB ?_)|(refine zh.r2 (r := .tmp 4) (r' := .tmp 5) (.inl rfl) (zn.tmp rfl) (zn.tmp rfl) ?_)|(refine zX.mk ?_)
 all_goals simp_all [bP]
theorem X8 (op a:Int) (s:S):VCalls Tryz.prog 97 [.int .i64 op,.int .i64 a] s (fun v s'=>v=bP (Qd op a)∧s'=s):=by
 have hA:=fun t=>ay a t
 have hB:=fun t=>wC a 1 t
 unfold Qd
 cases ha:Q0 a <;> rw [ha] at hA
 all_goals cases hb:like a 1 <;> rw [hb] at hB
 all_goals by_cases h1:op=15
 all_goals by_cases h2:op=16
 all_goals
   refine zi.pure Tryz.func97 rfl (by kernel_rfl) (by simp) ?_
   repeat' first|(refine zf ?_;first|(refine zq.nil ?_)|(refine zq.ev zx rfl ?_)|(refine zy 110 ?_;first|(refine zq.ans (zk.ze rfl rfl rfl (Jc) (hB _)) ?_))|(refine zy 95 ?_;first|(refine zq.ans (zk.ze rfl rfl rfl (Aq) (hA _)) ?_))|(refine zy 99 ?_;first|(refine zq.ans (zk.ze rfl rfl rfl (XE) (j5 _ _ _)) ?_)))|(refine zH ?_;first|(refine WL.seq ?_)|(refine WL.region (by kernel_rfl) ?_)|(refine WL.block ?_)|(refine WL.skip ?_)|(refine WL.ret ?_)|(refine zu ?_;first|(refine WL.zJ rfl ?_ ?_;(focus (first|(exact decide_eq_true (by assumption)))))|(refine WL.zY rfl ?_ ?_;(focus (first|(exact decide_eq_false (by assumption)))))))|(refine zw ?_)|(refine zZ ?_)|(refine zQ ?_)|(refine zB ?_)|(refine zh.r2 (r := .tmp 4) (r' := .tmp 5) (.inl rfl) (zn.tmp rfl) (zn.tmp rfl) ?_)|(refine zX.mk ?_)
 all_goals simp_all [bP]
end Go.Proofs.YtolhegocbkckdaaGreat
