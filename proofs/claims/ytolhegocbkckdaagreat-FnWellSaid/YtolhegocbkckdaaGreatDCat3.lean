/-
 CatalogOk, of the program and of the reference, over DTyDef's nameOk. Own work; no condition.
-/
import Derived.Test.YtolhegocbkckdaaGreatDTyA2
namespace Go.Proofs.YtolhegocbkckdaaGreat
open Go
set_option linter.unusedSimpArgs false
set_option linter.unusedVariables false
set_option maxHeartbeats 4000000
theorem Yc {l:List Tab} (h:bY Tab.wt l≤1048576) {x:Tab} (hx:x∈l):x.wt≤1048576∧x.qO.length≤1048576:=by
 obtain ⟨i,hi,rfl⟩:=List.getElem_of_mem hx
 have h1:=iB (f:=Tab.wt) hi
 have h2:=jA Col.wt l[i].qO
 have h3:bY Col.wt l[i].qO≤l[i].wt:=by simp only [Tab.wt];omega
 omega
def allI {α : Type} (p:Nat → α → Bool):List α → Nat→Bool
 | [],_=>true
 | x::xs,i=>p i x&&allI p xs (i+1)
theorem iF {α : Type} {p:Nat → α → Bool} {xs:List α} {i:Nat} (h:i<xs.length):allI p (xs.drop i) i=(p i xs[i]&&allI p (xs.drop (i+1)) (i+1)):=by
 rw [List.drop_eq_getElem_cons h,allI]
theorem oZ {α : Type} {p:Nat → α → Bool} {xs:List α} {i:Nat} (h:xs.length≤i) (n:Nat):allI p (xs.drop i) n=true:=by rw [List.drop_of_length_le h];rfl
def wD (t:Tab) (k:Nat) (c:Col):Bool:=nameOk c.name&&(jw c.type 1 3&&decide (t.at c.name=k))
def aS (t:Tab):Bool:=nameOk t.name&&(jw t.qO.length 1 4&&allI (wD t) t.qO 0)
def rowOk (c:jy) (i:Nat) (t:Tab):Bool:=aS t&&decide (c.at t.name=i)
def wF (c:jy):Bool:=decide ((c.tables.length:Int)≤4)&&allI (rowOk c) c.tables 0
theorem bL (t:Tab) (h:t.wt≤1048576) (s:S):VCalls Tryz.prog 46 [t.zF] s (fun v s'=>v = .bool (aS t)∧s'=s):=by
 have hw:=h
 simp only [Tab.wt] at h
 have hl:=jA Col.wt t.qO
 refine zi.pure Tryz.func46 rfl (by kernel_rfl) (by simp) ?_
 repeat' first|(refine zf ?_;first|(refine zq.nil ?_)|(refine zq.ev zx rfl ?_)|(refine qW ?_;refine zq.box rfl rfl rfl rfl ?_)|(refine zo ?_;first|(refine zq.ans (zk.zm zx rfl rfl rfl rfl) ?_))|(refine qx ?_;first|(refine zq.ans (zk.z8 zx rfl rfl rfl) ?_)))|(refine zH ?_;first|(refine WL.seq ?_)|(refine WL.region (by kernel_rfl) ?_)|(refine WL.block ?_))|(refine zw ?_)
 refine WL.xK (fun i:Nat=>t.qO.length - i) (fun i=>[(1,.ptr (s.next+0) 0),(6,.sl 0 (t.qO.map Col.zF)),(7,.int .i64 t.qO.length),(8,.int .i64 (i:Int))]) (fun i=>[.var [.str t.name,.sl 0 (t.qO.map Col.zF)]])
   (fun i=>i≤t.qO.length∧allI (wD t) t.qO 0=allI (wD t) (t.qO.drop i) i) 1 0 ⟨by simp,rfl⟩ (fun _=>rfl) ⟨rfl,rfl,rfl,rfl,trivial⟩ rfl (fun i hi=>?_) (fun i hi=>?_)
 · simp [qF,qG,Own.under,V.under,V.zO]
 obtain ⟨hi,hc⟩:=hi
 rcases Nat.lt_or_ge i t.qO.length with hlt | hge
 · rw [iF hlt] at hc
   cases q1:nameOk t.qO[i].name
   · have hp : wD t i t.qO[i] = false := by simp [wD, q1]
     repeat' first|(refine zf ?_;first|(refine zq.nil ?_)|(refine kG ?_;first|(refine zq.gF rfl rfl rfl ?_)|(refine zq.gD true rfl rfl rfl ?_ ?_;(focus (first|(simp <;> omega)))))|(refine zU ?_;refine zq.qD zx rfl rfl rfl rfl rfl rfl rfl rfl rfl ?_)|(refine zq.ev zx rfl ?_)|(refine qj ?_;refine zq.alloc zx rfl rfl rfl rfl ?_)|(refine zo ?_;first|(refine zq.ans (zk.zm zx rfl rfl rfl rfl) ?_))|(refine xw ?_;first|(refine zq.ans (zk.yZ zx rfl rfl rfl rfl rfl (by omega) rfl rfl) ?_))|(refine zy 55 ?_;first|(refine zq.ans (zk.ze rfl rfl rfl (Ja) (j6 _ _)) ?_)))|(refine zH ?_;first|(refine WL.seq ?_)|(refine WL.region (by kernel_rfl) ?_)|(refine WL.block ?_)|(refine WL.skip ?_)|(refine WL.ret ?_)|(refine zu ?_;first|(refine WL.qb rfl ?_)|(refine WL.zJ rfl ?_ ?_;(focus (first|(simp <;> omega))))))|(refine zw ?_)|(refine zZ ?_)|(refine zB ?_)|(refine qH ?_)|(refine zh.r1 (r := .tmp 2) (.inl rfl) (zn.tmp rfl) ?_)|(refine zX.mk ?_)
     simp [aS,hc,hp]
   cases q2:jw t.qO[i].type 1 3
   · have hp : wD t i t.qO[i] = false := by simp [wD, q2]
     have q2':¬ (1≤t.qO[i].type∧t.qO[i].type≤3):=by simpa [jw] using q2
     by_cases q3:t.qO[i].type<1
     · skip
       repeat' first|(refine zf ?_;first|(refine zq.nil ?_)|(refine kG ?_;first|(refine zq.gT rfl rfl rfl ?_)|(refine zq.gF rfl rfl rfl ?_)|(refine zq.gD true rfl rfl rfl ?_ ?_;(focus (first|(exact decide_eq_true (by assumption)))))|(refine zq.gD false rfl rfl rfl ?_ ?_;(focus (first|(simp <;> omega)))))|(refine zU ?_;refine zq.qD zx rfl rfl rfl rfl rfl rfl rfl rfl rfl ?_)|(refine zq.ev zx rfl ?_)|(refine qj ?_;refine zq.alloc zx rfl rfl rfl rfl ?_)|(refine zo ?_;first|(refine zq.ans (zk.zm zx rfl rfl rfl rfl) ?_))|(refine xw ?_;first|(refine zq.ans (zk.yZ zx rfl rfl rfl rfl rfl (by omega) rfl rfl) ?_))|(refine zy 55 ?_;first|(refine zq.ans (zk.ze rfl rfl rfl (Ja) (j6 _ _)) ?_)))|(refine zH ?_;first|(refine WL.seq ?_)|(refine WL.region (by kernel_rfl) ?_)|(refine WL.block ?_)|(refine WL.skip ?_)|(refine WL.ret ?_)|(refine zu ?_;first|(refine WL.qb rfl ?_)|(refine WL.zJ rfl ?_ ?_;(focus (first|(simp <;> omega))))))|(refine zw ?_)|(refine zZ ?_)|(refine zB ?_)|(refine qH ?_)|(refine zh.r1 (r := .tmp 2) (.inl rfl) (zn.tmp rfl) ?_)|(refine zX.mk ?_)
       simp [aS,hc,hp]
     · have q4 : 3 < t.qO[i].type := by omega
       repeat' first|(refine zf ?_;first|(refine zq.nil ?_)|(refine kG ?_;first|(refine zq.gT rfl rfl rfl ?_)|(refine zq.gF rfl rfl rfl ?_)|(refine zq.gD true rfl rfl rfl ?_ ?_;(focus (first|(exact decide_eq_true (by assumption)))))|(refine zq.gD false rfl rfl rfl ?_ ?_;(focus (first|(exact decide_eq_false (by assumption))|(simp <;> omega)))))|(refine zU ?_;refine zq.qD zx rfl rfl rfl rfl rfl rfl rfl rfl rfl ?_)|(refine zq.ev zx rfl ?_)|(refine qj ?_;refine zq.alloc zx rfl rfl rfl rfl ?_)|(refine zo ?_;first|(refine zq.ans (zk.zm zx rfl rfl rfl rfl) ?_))|(refine xw ?_;first|(refine zq.ans (zk.yZ zx rfl rfl rfl rfl rfl (by omega) rfl rfl) ?_))|(refine zy 55 ?_;first|(refine zq.ans (zk.ze rfl rfl rfl (Ja) (j6 _ _)) ?_)))|(refine zH ?_;first|(refine WL.seq ?_)|(refine WL.region (by kernel_rfl) ?_)|(refine WL.block ?_)|(refine WL.skip ?_)|(refine WL.ret ?_)|(refine zu ?_;first|(refine WL.qb rfl ?_)|(refine WL.zJ rfl ?_ ?_;(focus (first|(simp <;> omega))))))|(refine zw ?_)|(refine zZ ?_)|(refine zB ?_)|(refine qH ?_)|(refine zh.r1 (r := .tmp 2) (.inl rfl) (zn.tmp rfl) ?_)|(refine zX.mk ?_)
       simp [aS,hc,hp]
   have q2':1≤t.qO[i].type∧t.qO[i].type≤3:=by simpa [jw] using q2
   obtain ⟨q3,q4⟩:=q2'
   by_cases q5:¬ t.at t.qO[i].name=i
   · have hp : wD t i t.qO[i] = false := by simp [wD, q5]
     repeat' first|(refine zf ?_;first|(refine zq.nil ?_)|(refine kG ?_;first|(refine zq.gT rfl rfl rfl ?_)|(refine zq.gD false rfl rfl rfl ?_ ?_;(focus (first|(simp <;> omega)))))|(refine zU ?_;refine zq.qD zx rfl rfl rfl rfl rfl rfl rfl rfl rfl ?_)|(refine zq.ev zx rfl ?_)|(refine qj ?_;refine zq.alloc zx rfl rfl rfl rfl ?_)|(refine zo ?_;first|(refine zq.ans (zk.zm zx rfl rfl rfl rfl) ?_))|(refine xw ?_;first|(refine zq.ans (zk.yZ zx rfl rfl rfl rfl rfl (by omega) rfl rfl) ?_))|(refine zy 55 ?_;first|(refine zq.ans (zk.ze rfl rfl rfl (Ja) (j6 _ _)) ?_))|(refine zy 81 ?_;first|(refine zq.ans (zk.ze rfl rfl rfl (Hl) (rW t _ ?_ _)) ?_;(focus (omega)))))|(refine zH ?_;first|(refine WL.seq ?_)|(refine WL.region (by kernel_rfl) ?_)|(refine WL.block ?_)|(refine WL.skip ?_)|(refine WL.ret ?_)|(refine zu ?_;first|(refine WL.zJ rfl ?_ ?_;(focus (first|(simp <;> omega))))))|(refine zw ?_)|(refine zZ ?_)|(refine zB ?_)|(refine qH ?_)|(refine zh.r1 (r := .tmp 2) (.inl rfl) (zn.tmp rfl) ?_)|(refine zX.mk ?_)
     simp [aS,hc,hp]
   have q6:t.at t.qO[i].name=i:=Classical.not_not.1 q5
   have hp:wD t i t.qO[i]=true:=by simp [wD,q1,q2,q6]
   repeat' first|(refine zf ?_;first|(refine zq.nil ?_)|(refine kG ?_;first|(refine zq.gT rfl rfl rfl ?_)|(refine zq.gD false rfl rfl rfl ?_ ?_;(focus (first|(simp <;> omega)))))|(refine zU ?_;refine zq.qD zx rfl rfl rfl rfl rfl rfl rfl rfl rfl ?_)|(refine zq.ev zx rfl ?_)|(refine qj ?_;refine zq.alloc zx rfl rfl rfl rfl ?_)|(refine zo ?_;first|(refine zq.ans (zk.zm zx rfl rfl rfl rfl) ?_))|(refine xk ?_;first|(refine zq.ans (zk.add rfl rfl ?_) ?_;(focus (constructor <;> omega))))|(refine xw ?_;first|(refine zq.ans (zk.yZ zx rfl rfl rfl rfl rfl (by omega) rfl rfl) ?_))|(refine zy 55 ?_;first|(refine zq.ans (zk.ze rfl rfl rfl (Ja) (j6 _ _)) ?_))|(refine zy 81 ?_;first|(refine zq.ans (zk.ze rfl rfl rfl (Hl) (rW t _ ?_ _)) ?_;(focus (omega)))))|(refine zH ?_;first|(refine WL.seq ?_)|(refine WL.region (by kernel_rfl) ?_)|(refine WL.block ?_)|(refine WL.skip ?_)|(refine zu ?_;first|(refine WL.zJ rfl ?_ ?_;(focus (first|(simp <;> omega))))|(refine WL.zY rfl ?_ ?_;(focus (first|(simp <;> omega))))))|(refine zw ?_)|(refine zQ ?_)
   all_goals
     refine qB.of (i+1) ?_ ?_ ?_ ?_
     · first | omega |(refine ⟨?_,?_⟩;(focus (first | omega |(simp;omega)));(first | omega |(simp_all [hc,hp] <;> fail)|(simp_all [hc,hp];omega)))|(simp_all [hc,hp] <;> fail)|(simp_all [hc,hp];omega)
     · first | omega |(simp;omega) | simp_all
     · repeat' first
         | exact qz.nil
         |(refine qz.mk rfl ?_ ?_)
         | rfl
         |(simp [hc,hp] <;> fail)
         |(simp [hc,hp];omega)
     · first | rfl |(simp [hc,hp] <;> fail)|(simp [hc,hp];omega)
 · rw [oZ hge] at hc
   repeat' first|(refine zf ?_;first|(refine zq.nil ?_)|(refine kG ?_;first|(refine zq.gT rfl rfl rfl ?_)|(refine zq.gF rfl rfl rfl ?_)|(refine zq.gC rfl rfl rfl (fun h=>?_) (fun h=>?_)))|(refine zq.ev zx rfl ?_)|(refine zo ?_;first|(refine zq.ans (zk.zm zx rfl rfl rfl rfl) ?_))|(refine qx ?_;first|(refine zq.ans (zk.z8 zx rfl rfl rfl) ?_))|(refine zy 55 ?_;first|(refine zq.ans (zk.ze rfl rfl rfl (Ja) (j6 _ _)) ?_)))|(refine zH ?_;first|(refine WL.seq ?_)|(refine WL.region (by kernel_rfl) ?_)|(refine WL.exit ?_)|(refine WL.ret ?_)|(refine zu ?_;first|(refine WL.zY rfl ?_ ?_;(focus (first|(simp <;> omega))))))|(refine zw ?_)|(refine zC ?_)|(refine zV ?_)|(refine zL ?_)|(refine zh.r1 (r := .tmp 2) (.inl rfl) (zn.tmp rfl) ?_)|(refine zX.mk ?_)
   all_goals (simp_all [aS,jw] <;> omega)
theorem rP (c:jy) (h:c.wt≤1048576) (s:S):VCalls Tryz.prog 16 [c.zF] s (fun v s'=>v = .bool (wF c)∧s'=s):=by
 have hw:=h
 simp only [jy.wt] at h
 have hl:=jA Tab.wt c.tables
 refine zi.pure Tryz.func16 rfl (by kernel_rfl) (by simp) ?_
 repeat' first|(refine zf ?_;first|(refine zq.nil ?_)|(refine zq.ev zx rfl ?_)|(refine qW ?_;refine zq.box rfl rfl rfl rfl ?_)|(refine zo ?_;first|(refine zq.ans (zk.zm zx rfl rfl rfl rfl) ?_))|(refine qx ?_;first|(refine zq.ans (zk.z8 zx rfl rfl rfl) ?_)))|(refine zH ?_;first|(refine WL.seq ?_)|(refine WL.region (by kernel_rfl) ?_)|(refine WL.block ?_))|(refine zw ?_)
 refine WL.xK (fun i:Nat=>c.tables.length - i) (fun i=>[(1,.ptr (s.next+0) 0),(6,.sl 0 (c.tables.map Tab.zF)),(7,.int .i64 c.tables.length),(8,.int .i64 (i:Int))]) (fun i=>[.var [.sl 0 (c.tables.map Tab.zF)]])
   (fun i=>i≤c.tables.length∧allI (rowOk c) c.tables 0=allI (rowOk c) (c.tables.drop i) i) 1 0 ⟨by simp,rfl⟩ (fun _=>rfl) ⟨rfl,rfl,rfl,rfl,trivial⟩ rfl (fun i hi=>?_) (fun i hi=>?_)
 · simp [qF,qG,Own.under,V.under,V.zO]
 obtain ⟨hi,hc⟩:=hi
 rcases Nat.lt_or_ge i c.tables.length with hlt | hge
 · have k3 := (Yc h (List.getElem_mem hlt)).1
   rw [iF hlt] at hc
   cases q1:aS c.tables[i]
   · have hp : rowOk c i c.tables[i] = false := by simp [rowOk, q1]
     repeat' first|(refine zf ?_;first|(refine zq.nil ?_)|(refine kG ?_;first|(refine zq.gF rfl rfl rfl ?_)|(refine zq.gD true rfl rfl rfl ?_ ?_;(focus (first|(simp <;> omega)))))|(refine zU ?_;refine zq.qD zx rfl rfl rfl rfl rfl rfl rfl rfl rfl ?_)|(refine zq.ev zx rfl ?_)|(refine qj ?_;refine zq.alloc zx rfl rfl rfl rfl ?_)|(refine zo ?_;first|(refine zq.ans (zk.zm zx rfl rfl rfl rfl) ?_))|(refine xw ?_;first|(refine zq.ans (zk.yZ zx rfl rfl rfl rfl rfl (by omega) rfl rfl) ?_))|(refine zy 46 ?_;first|(refine zq.ans (zk.ze rfl rfl rfl (El) (bL c.tables[i] ?_ _)) ?_;(focus (omega)))))|(refine zH ?_;first|(refine WL.seq ?_)|(refine WL.region (by kernel_rfl) ?_)|(refine WL.block ?_)|(refine WL.skip ?_)|(refine WL.ret ?_)|(refine zu ?_;first|(refine WL.qb rfl ?_)|(refine WL.zJ rfl ?_ ?_;(focus (first|(simp <;> omega))))))|(refine zw ?_)|(refine zZ ?_)|(refine zB ?_)|(refine qH ?_)|(refine zh.r1 (r := .tmp 2) (.inl rfl) (zn.tmp rfl) ?_)|(refine zX.mk ?_)
     simp [wF,hc,hp]
   by_cases q5:¬ c.at c.tables[i].name=i
   · have hp : rowOk c i c.tables[i] = false := by simp [rowOk, q5]
     repeat' first|(refine zf ?_;first|(refine zq.nil ?_)|(refine kG ?_;first|(refine zq.gT rfl rfl rfl ?_)|(refine zq.gD false rfl rfl rfl ?_ ?_;(focus (first|(simp <;> omega)))))|(refine zU ?_;refine zq.qD zx rfl rfl rfl rfl rfl rfl rfl rfl rfl ?_)|(refine zq.ev zx rfl ?_)|(refine qj ?_;refine zq.alloc zx rfl rfl rfl rfl ?_)|(refine zo ?_;first|(refine zq.ans (zk.zm zx rfl rfl rfl rfl) ?_))|(refine xw ?_;first|(refine zq.ans (zk.yZ zx rfl rfl rfl rfl rfl (by omega) rfl rfl) ?_))|(refine zy 46 ?_;first|(refine zq.ans (zk.ze rfl rfl rfl (El) (bL c.tables[i] ?_ _)) ?_;(focus (omega))))|(refine zy 47 ?_;first|(refine zq.ans (zk.ze rfl rfl rfl (Hz) (lg c _ ?_ _)) ?_;(focus (omega)))))|(refine zH ?_;first|(refine WL.seq ?_)|(refine WL.region (by kernel_rfl) ?_)|(refine WL.block ?_)|(refine WL.skip ?_)|(refine WL.ret ?_)|(refine zu ?_;first|(refine WL.zJ rfl ?_ ?_;(focus (first|(simp <;> omega))))))|(refine zw ?_)|(refine zZ ?_)|(refine zB ?_)|(refine qH ?_)|(refine zh.r1 (r := .tmp 2) (.inl rfl) (zn.tmp rfl) ?_)|(refine zX.mk ?_)
     simp [wF,hc,hp]
   have q6:c.at c.tables[i].name=i:=Classical.not_not.1 q5
   have hp:rowOk c i c.tables[i]=true:=by simp [rowOk,q1,q6]
   repeat' first|(refine zf ?_;first|(refine zq.nil ?_)|(refine kG ?_;first|(refine zq.gT rfl rfl rfl ?_)|(refine zq.gD false rfl rfl rfl ?_ ?_;(focus (first|(simp <;> omega)))))|(refine zU ?_;refine zq.qD zx rfl rfl rfl rfl rfl rfl rfl rfl rfl ?_)|(refine zq.ev zx rfl ?_)|(refine qj ?_;refine zq.alloc zx rfl rfl rfl rfl ?_)|(refine zo ?_;first|(refine zq.ans (zk.zm zx rfl rfl rfl rfl) ?_))|(refine xk ?_;first|(refine zq.ans (zk.add rfl rfl ?_) ?_;(focus (constructor <;> omega))))|(refine xw ?_;first|(refine zq.ans (zk.yZ zx rfl rfl rfl rfl rfl (by omega) rfl rfl) ?_))|(refine zy 46 ?_;first|(refine zq.ans (zk.ze rfl rfl rfl (El) (bL c.tables[i] ?_ _)) ?_;(focus (omega))))|(refine zy 47 ?_;first|(refine zq.ans (zk.ze rfl rfl rfl (Hz) (lg c _ ?_ _)) ?_;(focus (omega)))))|(refine zH ?_;first|(refine WL.seq ?_)|(refine WL.region (by kernel_rfl) ?_)|(refine WL.block ?_)|(refine WL.skip ?_)|(refine zu ?_;first|(refine WL.zJ rfl ?_ ?_;(focus (first|(simp <;> omega))))|(refine WL.zY rfl ?_ ?_;(focus (first|(simp <;> omega))))))|(refine zw ?_)|(refine zQ ?_)
   all_goals
     refine qB.of (i+1) ?_ ?_ ?_ ?_
     · first | omega |(refine ⟨?_,?_⟩;(focus (first | omega |(simp;omega)));(first | omega |(simp_all [hc,hp] <;> fail)|(simp_all [hc,hp];omega)))|(simp_all [hc,hp] <;> fail)|(simp_all [hc,hp];omega)
     · first | omega |(simp;omega) | simp_all
     · repeat' first
         | exact qz.nil
         |(refine qz.mk rfl ?_ ?_)
         | rfl
         |(simp [hc,hp] <;> fail)
         |(simp [hc,hp];omega)
     · first | rfl |(simp [hc,hp] <;> fail)|(simp [hc,hp];omega)
 · rw [oZ hge] at hc
   repeat' first|(refine zf ?_;first|(refine zq.nil ?_)|(refine zq.ev zx rfl ?_)|(refine zo ?_;first|(refine zq.ans (zk.zm zx rfl rfl rfl rfl) ?_))|(refine qx ?_;first|(refine zq.ans (zk.z8 zx rfl rfl rfl) ?_)))|(refine zH ?_;first|(refine WL.seq ?_)|(refine WL.region (by kernel_rfl) ?_)|(refine WL.exit ?_)|(refine WL.ret ?_)|(refine zu ?_;first|(refine WL.zY rfl ?_ ?_;(focus (first|(simp <;> omega))))))|(refine zw ?_)|(refine zC ?_)|(refine zV ?_)|(refine zL ?_)|(refine zh.r1 (r := .tmp 2) (.inl rfl) (zn.tmp rfl) ?_)|(refine zX.mk ?_)
   simp [wF,hc]
theorem fJ (c:jy) (h:c.wt≤1048576) (s:S):VCalls Tryz.prog 9 [c.zF] s (fun v s'=>v = .bool (wF c)∧s'=s):=by
 have hw:=h
 simp only [jy.wt] at h
 have hl:=jA Tab.wt c.tables
 refine zi.pure Tryz.func9 rfl (by kernel_rfl) (by simp) ?_
 by_cases h4:(4:Int)<c.tables.length
 · skip
   repeat' first|(refine zf ?_;first|(refine zq.nil ?_)|(refine zq.ev zx rfl ?_)|(refine qW ?_;refine zq.box rfl rfl rfl rfl ?_)|(refine zo ?_;first|(refine zq.ans (zk.zm zx rfl rfl rfl rfl) ?_))|(refine qx ?_;first|(refine zq.ans (zk.z8 zx rfl rfl rfl) ?_)))|(refine zH ?_;first|(refine WL.seq ?_)|(refine WL.region (by kernel_rfl) ?_)|(refine WL.ret ?_)|(refine zu ?_;first|(refine WL.zJ rfl ?_ ?_;(focus (first|(exact decide_eq_true (by assumption)))))))|(refine zw ?_)|(refine zZ ?_)|(refine zh.r1 (r := .tmp 2) (.inl rfl) (zn.tmp rfl) ?_)|(refine zX.mk ?_)
   simp [wF];omega
 repeat' first|(refine zf ?_;first|(refine zq.nil ?_)|(refine zq.ev zx rfl ?_)|(refine qW ?_;refine zq.box rfl rfl rfl rfl ?_)|(refine zo ?_;first|(refine zq.ans (zk.zm zx rfl rfl rfl rfl) ?_))|(refine qx ?_;first|(refine zq.ans (zk.z8 zx rfl rfl rfl) ?_)))|(refine zH ?_;first|(refine WL.seq ?_)|(refine WL.region (by kernel_rfl) ?_)|(refine WL.block ?_)|(refine WL.skip ?_)|(refine zu ?_;first|(refine WL.zY rfl ?_ ?_;(focus (first|(exact decide_eq_false (by assumption)))))))|(refine zw ?_)
 refine WL.xK (fun i:Nat=>c.tables.length - i) (fun i=>[(1,.ptr (s.next+0) 0),(3,.int .i64 (i:Int))]) (fun i=>[.var [.sl 0 (c.tables.map Tab.zF)]])
   (fun i=>i≤c.tables.length∧allI (rowOk c) c.tables 0=allI (rowOk c) (c.tables.drop i) i) 1 0 ⟨by simp,rfl⟩ (fun _=>rfl) ⟨rfl,rfl,trivial⟩ rfl (fun i hi=>?_) (fun i hi=>?_)
 · simp [qF,qG,Own.under,V.under,V.zO]
 obtain ⟨hi,hc⟩:=hi
 rcases Nat.lt_or_ge i c.tables.length with hlt | hge
 · obtain ⟨k3, k4⟩ := Yc h (List.getElem_mem hlt)
   rw [iF hlt] at hc
   cases q1:nameOk c.tables[i].name
   · have hr : rowOk c i c.tables[i] = false := by simp [rowOk, aS, q1]
     repeat' first|(refine zf ?_;first|(refine zq.nil ?_)|(refine kG ?_;first|(refine zq.gF rfl rfl rfl ?_)|(refine zq.gD true rfl rfl rfl ?_ ?_;(focus (first|(simp <;> omega)))))|(refine zU ?_;refine zq.qD zx rfl rfl rfl rfl rfl rfl rfl rfl rfl ?_)|(refine zq.ev zx rfl ?_)|(refine qj ?_;refine zq.alloc zx rfl rfl rfl rfl ?_)|(refine zo ?_;first|(refine zq.ans (zk.zm zx rfl rfl rfl rfl) ?_))|(refine qx ?_;first|(refine zq.ans (zk.z8 zx rfl rfl rfl) ?_))|(refine xw ?_;first|(refine zq.ans (zk.yZ zx rfl rfl rfl rfl rfl (by omega) rfl rfl) ?_))|(refine zy 25 ?_;first|(refine zq.ans (zk.ze rfl rfl rfl (Ze) (jh _ _)) ?_)))|(refine zH ?_;first|(refine WL.seq ?_)|(refine WL.region (by kernel_rfl) ?_)|(refine WL.block ?_)|(refine WL.skip ?_)|(refine WL.ret ?_)|(refine zu ?_;first|(refine WL.qb rfl ?_)|(refine WL.zJ rfl ?_ ?_;(focus (first|(simp <;> omega))))))|(refine zw ?_)|(refine zZ ?_)|(refine zB ?_)|(refine qH ?_)|(refine zh.r1 (r := .tmp 2) (.inl rfl) (zn.tmp rfl) ?_)|(refine zX.mk ?_)
     simp [wF,hc,hr]
   by_cases q2':¬ c.at c.tables[i].name=i
   · have hr : rowOk c i c.tables[i] = false := by simp [rowOk, q2']
     repeat' first|(refine zf ?_;first|(refine zq.nil ?_)|(refine kG ?_;first|(refine zq.gT rfl rfl rfl ?_)|(refine zq.gF rfl rfl rfl ?_)|(refine zq.gD true rfl rfl rfl ?_ ?_;(focus (first|(simp <;> omega))))|(refine zq.gD false rfl rfl rfl ?_ ?_;(focus (first|(simp <;> omega)))))|(refine zU ?_;refine zq.qD zx rfl rfl rfl rfl rfl rfl rfl rfl rfl ?_)|(refine zq.ev zx rfl ?_)|(refine qj ?_;refine zq.alloc zx rfl rfl rfl rfl ?_)|(refine zo ?_;first|(refine zq.ans (zk.zm zx rfl rfl rfl rfl) ?_))|(refine qx ?_;first|(refine zq.ans (zk.z8 zx rfl rfl rfl) ?_))|(refine xw ?_;first|(refine zq.ans (zk.yZ zx rfl rfl rfl rfl rfl (by omega) rfl rfl) ?_))|(refine zy 25 ?_;first|(refine zq.ans (zk.ze rfl rfl rfl (Ze) (jh _ _)) ?_))|(refine zy 26 ?_;first|(refine zq.ans (zk.ze rfl rfl rfl (Ee) (bF c _ ?_ _)) ?_;(focus (omega)))))|(refine zH ?_;first|(refine WL.seq ?_)|(refine WL.region (by kernel_rfl) ?_)|(refine WL.block ?_)|(refine WL.skip ?_)|(refine WL.ret ?_)|(refine zu ?_;first|(refine WL.qb rfl ?_)|(refine WL.zJ rfl ?_ ?_;(focus (first|(simp <;> omega))))))|(refine zw ?_)|(refine zZ ?_)|(refine zB ?_)|(refine qH ?_)|(refine zh.r1 (r := .tmp 2) (.inl rfl) (zn.tmp rfl) ?_)|(refine zX.mk ?_)
     simp [wF,hc,hr]
   have q2:c.at c.tables[i].name=i:=Classical.not_not.1 q2'
   cases q3:jw c.tables[i].qO.length 1 4
   · have hr : rowOk c i c.tables[i] = false := by simp [rowOk, aS, q3]
     repeat' first|(refine zf ?_;first|(refine zq.nil ?_)|(refine kG ?_;first|(refine zq.gT rfl rfl rfl ?_)|(refine zq.gD false rfl rfl rfl ?_ ?_;(focus (first|(simp <;> omega)))))|(refine zU ?_;refine zq.qD zx rfl rfl rfl rfl rfl rfl rfl rfl rfl ?_)|(refine zq.ev zx rfl ?_)|(refine qj ?_;refine zq.alloc zx rfl rfl rfl rfl ?_)|(refine zo ?_;first|(refine zq.ans (zk.zm zx rfl rfl rfl rfl) ?_))|(refine qx ?_;first|(refine zq.ans (zk.z8 zx rfl rfl rfl) ?_))|(refine xw ?_;first|(refine zq.ans (zk.yZ zx rfl rfl rfl rfl rfl (by omega) rfl rfl) ?_))|(refine zy 25 ?_;first|(refine zq.ans (zk.ze rfl rfl rfl (Ze) (jh _ _)) ?_))|(refine zy 26 ?_;first|(refine zq.ans (zk.ze rfl rfl rfl (Ee) (bF c _ ?_ _)) ?_;(focus (omega))))|(refine zy 27 ?_;first|(refine zq.ans (zk.ze rfl rfl rfl (jO) (q9 _ _ _ _)) ?_)))|(refine zH ?_;first|(refine WL.seq ?_)|(refine WL.region (by kernel_rfl) ?_)|(refine WL.block ?_)|(refine WL.skip ?_)|(refine WL.ret ?_)|(refine zu ?_;first|(refine WL.zJ rfl ?_ ?_;(focus (first|(simp <;> omega))))))|(refine zw ?_)|(refine zZ ?_)|(refine zB ?_)|(refine qH ?_)|(refine zh.r1 (r := .tmp 2) (.inl rfl) (zn.tmp rfl) ?_)|(refine zX.mk ?_)
     simp [wF,hc,hr]
   repeat' first|(refine zf ?_;first|(refine zq.nil ?_)|(refine kG ?_;first|(refine zq.gT rfl rfl rfl ?_)|(refine zq.gD false rfl rfl rfl ?_ ?_;(focus (first|(simp <;> omega)))))|(refine zU ?_;refine zq.qD zx rfl rfl rfl rfl rfl rfl rfl rfl rfl ?_)|(refine zq.ev zx rfl ?_)|(refine qj ?_;refine zq.alloc zx rfl rfl rfl rfl ?_)|(refine zo ?_;first|(refine zq.ans (zk.zm zx rfl rfl rfl rfl) ?_))|(refine qx ?_;first|(refine zq.ans (zk.z8 zx rfl rfl rfl) ?_))|(refine xw ?_;first|(refine zq.ans (zk.yZ zx rfl rfl rfl rfl rfl (by omega) rfl rfl) ?_))|(refine zy 25 ?_;first|(refine zq.ans (zk.ze rfl rfl rfl (Ze) (jh _ _)) ?_))|(refine zy 26 ?_;first|(refine zq.ans (zk.ze rfl rfl rfl (Ee) (bF c _ ?_ _)) ?_;(focus (omega))))|(refine zy 27 ?_;first|(refine zq.ans (zk.ze rfl rfl rfl (jO) (q9 _ _ _ _)) ?_)))|(refine zH ?_;first|(refine WL.seq ?_)|(refine WL.region (by kernel_rfl) ?_)|(refine WL.block ?_)|(refine WL.skip ?_)|(refine zu ?_;first|(refine WL.zJ rfl ?_ ?_;(focus (first|(simp <;> omega))))|(refine WL.zY rfl ?_ ?_;(focus (first|(simp <;> omega))))))|(refine zw ?_)
   generalize hx:c.tables[i]=x at *
   refine WL.xK (fun j:Nat=>x.qO.length - j) (fun j=>[(1,.ptr (s.next+0) 0),(3,.int .i64 (i:Int)),(4,.ptr (s.next+1) 0),(5,.int .i64 (j:Int))])
     (fun j=>[.var [.sl 0 (c.tables.map Tab.zF)],.var [.str x.name,.sl 0 (x.qO.map Col.zF)]])
     (fun j=>j≤x.qO.length∧allI (wD x) x.qO 0=allI (wD x) (x.qO.drop j) j) 2 0 ⟨by simp,rfl⟩ (fun _=>rfl) ⟨rfl,rfl,rfl,rfl,trivial⟩ rfl (fun j hj=>?_) (fun j hj=>?_)
   · simp [qF,qG,Own.under,V.under,V.zO]
   obtain ⟨hj,hcj⟩:=hj
   rcases Nat.lt_or_ge j x.qO.length with hjl | RD
   · rw [iF hjl] at hcj
     cases u1:nameOk x.qO[j].name
     · have hp : wD x j x.qO[j] = false := by simp [wD, u1]
       have hr:rowOk c i x=false:=by simp [rowOk,aS,hcj,hp]
       repeat' first|(refine zf ?_;first|(refine zq.nil ?_)|(refine zq.ev zx rfl ?_)|(refine zo ?_;first|(refine zq.ans (zk.zm zx rfl rfl rfl rfl) ?_))|(refine qx ?_;first|(refine zq.ans (zk.z8 zx rfl rfl rfl) ?_)))|(refine zH ?_;first|(refine WL.seq ?_)|(refine WL.region (by kernel_rfl) ?_)|(refine WL.drawn (id:=12) [0,1,2,3,4,5,6,7,8,9,10,11,12,13,14,15,16,17,18,19,20,21,22,23,24,25,26,27,28,29] [] [[],[0],[],[0,1,2],[0,1,2,3],[0,1,2,3,4],[0,1,2,3,4,5],[0,1,2,3,4,5,6],[0,1,2,3,4,5,6,7],[0,1,2,3,4,5,6,7,8],[0,1,2,3,4,5,6,7,8],[0,1,2,3,4,5,6,7,8,10],[0,1,2,3,4,5,6,7,8],[0,1,2,3,4,5,6,7,8,10,11,12],[0,1,2,3,4,5,6,7,8,10,11,12,13],[0,1,2,3,4,5,6,7,8,10,11,12,13,14],[0,1,2,3,4,5,6,7,8,9,10,11,12,13,14,15],[0,1,2,3,4,5,6,7,8],[0,1,2,3,4,5,6,7,8,9,10,11,12,13,14,15,16,17],[0,1,2,3,4,5,6,7,8,9,10,11,12,13,14,15,16,17,18],[0,1,2,3,4,5,6,7,8,9,10,11,12,13,14,15,16,17,18,19],[0,1,2,3,4,5,6,7,8,9,10,11,12,13,14,15,16,17,18,19,20],[0,1,2,3,4,5,6,7,8,9,10,11,12,13,14,15,16,17,18,19,20,21],[0,1,2,3,4,5,6,7,8,9,10,11,12,13,14,15,16,17,18,19,20],[0,1,2,3,4,5,6,7,8,9,10,11,12,13,14,15,16,17,18,19,20,21,22,23],[0,1,2,3,4,5,6,7,8,9,10,11,12,13,14,15,16,17,18,19,20,21,22,23,24],[0,1,2,3,4,5,6,7,8,9,10,11,12,13,14,15,16,17,18,19,20,21,22,23,24,25],[0,1,2,3,4,5,6,7,8,9,10,11,12,13,14,15,16,17,18,19,20,21,22,23,24,25,26],[0,1,2,3,4,5,6,7,8,9,10,11,12,13,14,15,16,17,18,19,20,21,22,23,24,25,26,27],[0,1,2,3,4,5,6,7,8,9,10,11,12,13,14,15,16,17,18,19,20,21,22,23,24,25,26,27,28]] (by kernel_rfl) (by kernel_rfl) ?_)|(refine WL.block ?_)|(refine WL.skip ?_)|(refine WL.ret ?_)|(refine zu ?_;first|(refine WL.qb rfl ?_)|(refine WL.zJ rfl ?_ ?_;(focus (first|(simp <;> omega))))))|(refine vN ?_;first|(refine zA.nil ?_)|(refine zA.fl rfl rfl (.ev zx rfl) ?_)|(refine zA.gF rfl rfl rfl rfl rfl ?_)|(refine qo rfl ?_;first|(refine zA.fl rfl rfl (zk.zm zx rfl rfl rfl rfl) ?_))|(refine kQ rfl ?_;first|(refine zA.fl rfl rfl (zk.yZ zx rfl rfl rfl rfl rfl (by omega) rfl rfl) ?_))|(refine qX 25 rfl ?_;first|(refine zA.fl rfl rfl (zk.ze rfl rfl rfl (Ze) (jh _ _)) ?_))|(refine zA.gD true rfl rfl rfl rfl ?_ ?_;(focus (first|(simp <;> omega)))))|(refine zw ?_)|(refine zZ ?_)|(refine zB ?_)|(refine qH ?_)|(refine zh.r1 (r := .tmp 2) (.inl rfl) (zn.tmp rfl) ?_)|(refine zX.mk ?_)
       simp [wF,hc,hr]
     by_cases PV:¬ x.at x.qO[j].name=j
     · have hp : wD x j x.qO[j] = false := by simp [wD, PV]
       have hr:rowOk c i x=false:=by simp [rowOk,aS,hcj,hp]
       repeat' first|(refine zf ?_;first|(refine zq.nil ?_)|(refine zq.ev zx rfl ?_)|(refine zo ?_;first|(refine zq.ans (zk.zm zx rfl rfl rfl rfl) ?_))|(refine qx ?_;first|(refine zq.ans (zk.z8 zx rfl rfl rfl) ?_)))|(refine zH ?_;first|(refine WL.seq ?_)|(refine WL.region (by kernel_rfl) ?_)|(refine WL.drawn (id:=12) [0,1,2,3,4,5,6,7,8,9,10,11,12,13,14,15,16,17,18,19,20,21,22,23,24,25,26,27,28,29] [] [[],[0],[],[0,1,2],[0,1,2,3],[0,1,2,3,4],[0,1,2,3,4,5],[0,1,2,3,4,5,6],[0,1,2,3,4,5,6,7],[0,1,2,3,4,5,6,7,8],[0,1,2,3,4,5,6,7,8],[0,1,2,3,4,5,6,7,8,10],[0,1,2,3,4,5,6,7,8],[0,1,2,3,4,5,6,7,8,10,11,12],[0,1,2,3,4,5,6,7,8,10,11,12,13],[0,1,2,3,4,5,6,7,8,10,11,12,13,14],[0,1,2,3,4,5,6,7,8,9,10,11,12,13,14,15],[0,1,2,3,4,5,6,7,8],[0,1,2,3,4,5,6,7,8,9,10,11,12,13,14,15,16,17],[0,1,2,3,4,5,6,7,8,9,10,11,12,13,14,15,16,17,18],[0,1,2,3,4,5,6,7,8,9,10,11,12,13,14,15,16,17,18,19],[0,1,2,3,4,5,6,7,8,9,10,11,12,13,14,15,16,17,18,19,20],[0,1,2,3,4,5,6,7,8,9,10,11,12,13,14,15,16,17,18,19,20,21],[0,1,2,3,4,5,6,7,8,9,10,11,12,13,14,15,16,17,18,19,20],[0,1,2,3,4,5,6,7,8,9,10,11,12,13,14,15,16,17,18,19,20,21,22,23],[0,1,2,3,4,5,6,7,8,9,10,11,12,13,14,15,16,17,18,19,20,21,22,23,24],[0,1,2,3,4,5,6,7,8,9,10,11,12,13,14,15,16,17,18,19,20,21,22,23,24,25],[0,1,2,3,4,5,6,7,8,9,10,11,12,13,14,15,16,17,18,19,20,21,22,23,24,25,26],[0,1,2,3,4,5,6,7,8,9,10,11,12,13,14,15,16,17,18,19,20,21,22,23,24,25,26,27],[0,1,2,3,4,5,6,7,8,9,10,11,12,13,14,15,16,17,18,19,20,21,22,23,24,25,26,27,28]] (by kernel_rfl) (by kernel_rfl) ?_)|(refine WL.block ?_)|(refine WL.skip ?_)|(refine WL.ret ?_)|(refine zu ?_;first|(refine WL.qb rfl ?_)|(refine WL.zJ rfl ?_ ?_;(focus (first|(simp <;> omega))))))|(refine vN ?_;first|(refine zA.nil ?_)|(refine zA.fl rfl rfl (.ev zx rfl) ?_)|(refine zA.gF rfl rfl rfl rfl rfl ?_)|(refine zA.gT rfl rfl rfl rfl rfl (.ev zx rfl) ?_)|(refine qo rfl ?_;first|(refine zA.fl rfl rfl (zk.zm zx rfl rfl rfl rfl) ?_)|(refine zA.gT rfl rfl rfl rfl rfl (zk.zm zx rfl rfl rfl rfl) ?_))|(refine kQ rfl ?_;first|(refine zA.fl rfl rfl (zk.yZ zx rfl rfl rfl rfl rfl (by omega) rfl rfl) ?_)|(refine zA.gT rfl rfl rfl rfl rfl (zk.yZ zx rfl rfl rfl rfl rfl (by omega) rfl rfl) ?_))|(refine qX 25 rfl ?_;first|(refine zA.fl rfl rfl (zk.ze rfl rfl rfl (Ze) (jh _ _)) ?_))|(refine qX 28 rfl ?_;first|(refine zA.gT rfl rfl rfl rfl rfl (zk.ze rfl rfl rfl (BH) (bU x _ ?_ _)) ?_;(focus (omega))))|(refine zA.gD true rfl rfl rfl rfl ?_ ?_;(focus (first|(simp <;> omega))))|(refine zA.gD false rfl rfl rfl rfl ?_ ?_;(focus (first|(simp <;> omega)))))|(refine zw ?_)|(refine zZ ?_)|(refine zB ?_)|(refine qH ?_)|(refine zh.r1 (r := .tmp 2) (.inl rfl) (zn.tmp rfl) ?_)|(refine zX.mk ?_)
       simp [wF,hc,hr]
     have u2:x.at x.qO[j].name=j:=Classical.not_not.1 PV
     cases u3:jw x.qO[j].type 1 3
     · have hp : wD x j x.qO[j] = false := by simp [wD, u3]
       have hr:rowOk c i x=false:=by simp [rowOk,aS,hcj,hp]
       repeat' first|(refine zf ?_;first|(refine zq.nil ?_)|(refine zq.ev zx rfl ?_)|(refine zo ?_;first|(refine zq.ans (zk.zm zx rfl rfl rfl rfl) ?_))|(refine qx ?_;first|(refine zq.ans (zk.z8 zx rfl rfl rfl) ?_)))|(refine zH ?_;first|(refine WL.seq ?_)|(refine WL.region (by kernel_rfl) ?_)|(refine WL.drawn (id:=12) [0,1,2,3,4,5,6,7,8,9,10,11,12,13,14,15,16,17,18,19,20,21,22,23,24,25,26,27,28,29] [] [[],[0],[],[0,1,2],[0,1,2,3],[0,1,2,3,4],[0,1,2,3,4,5],[0,1,2,3,4,5,6],[0,1,2,3,4,5,6,7],[0,1,2,3,4,5,6,7,8],[0,1,2,3,4,5,6,7,8],[0,1,2,3,4,5,6,7,8,10],[0,1,2,3,4,5,6,7,8],[0,1,2,3,4,5,6,7,8,10,11,12],[0,1,2,3,4,5,6,7,8,10,11,12,13],[0,1,2,3,4,5,6,7,8,10,11,12,13,14],[0,1,2,3,4,5,6,7,8,9,10,11,12,13,14,15],[0,1,2,3,4,5,6,7,8],[0,1,2,3,4,5,6,7,8,9,10,11,12,13,14,15,16,17],[0,1,2,3,4,5,6,7,8,9,10,11,12,13,14,15,16,17,18],[0,1,2,3,4,5,6,7,8,9,10,11,12,13,14,15,16,17,18,19],[0,1,2,3,4,5,6,7,8,9,10,11,12,13,14,15,16,17,18,19,20],[0,1,2,3,4,5,6,7,8,9,10,11,12,13,14,15,16,17,18,19,20,21],[0,1,2,3,4,5,6,7,8,9,10,11,12,13,14,15,16,17,18,19,20],[0,1,2,3,4,5,6,7,8,9,10,11,12,13,14,15,16,17,18,19,20,21,22,23],[0,1,2,3,4,5,6,7,8,9,10,11,12,13,14,15,16,17,18,19,20,21,22,23,24],[0,1,2,3,4,5,6,7,8,9,10,11,12,13,14,15,16,17,18,19,20,21,22,23,24,25],[0,1,2,3,4,5,6,7,8,9,10,11,12,13,14,15,16,17,18,19,20,21,22,23,24,25,26],[0,1,2,3,4,5,6,7,8,9,10,11,12,13,14,15,16,17,18,19,20,21,22,23,24,25,26,27],[0,1,2,3,4,5,6,7,8,9,10,11,12,13,14,15,16,17,18,19,20,21,22,23,24,25,26,27,28]] (by kernel_rfl) (by kernel_rfl) ?_)|(refine WL.block ?_)|(refine WL.skip ?_)|(refine WL.ret ?_)|(refine zu ?_;first|(refine WL.zJ rfl ?_ ?_;(focus (first|(simp <;> omega))))))|(refine vN ?_;first|(refine zA.nil ?_)|(refine zA.fl rfl rfl (.ev zx rfl) ?_)|(refine zA.gT rfl rfl rfl rfl rfl (.ev zx rfl) ?_)|(refine qo rfl ?_;first|(refine zA.fl rfl rfl (zk.zm zx rfl rfl rfl rfl) ?_)|(refine zA.gT rfl rfl rfl rfl rfl (zk.zm zx rfl rfl rfl rfl) ?_))|(refine kQ rfl ?_;first|(refine zA.fl rfl rfl (zk.yZ zx rfl rfl rfl rfl rfl (by omega) rfl rfl) ?_)|(refine zA.gT rfl rfl rfl rfl rfl (zk.yZ zx rfl rfl rfl rfl rfl (by omega) rfl rfl) ?_))|(refine qX 25 rfl ?_;first|(refine zA.fl rfl rfl (zk.ze rfl rfl rfl (Ze) (jh _ _)) ?_))|(refine qX 27 rfl ?_;first|(refine zA.gT rfl rfl rfl rfl rfl (zk.ze rfl rfl rfl (jO) (q9 _ _ _ _)) ?_))|(refine qX 28 rfl ?_;first|(refine zA.gT rfl rfl rfl rfl rfl (zk.ze rfl rfl rfl (BH) (bU x _ ?_ _)) ?_;(focus (omega))))|(refine zA.gD false rfl rfl rfl rfl ?_ ?_;(focus (first|(simp <;> omega)))))|(refine zw ?_)|(refine zZ ?_)|(refine zB ?_)|(refine qH ?_)|(refine zh.r1 (r := .tmp 2) (.inl rfl) (zn.tmp rfl) ?_)|(refine zX.mk ?_)
       simp [wF,hc,hr]
     have hp:wD x j x.qO[j]=true:=by simp [wD,u1,u2,u3]
     repeat' first|(refine zf ?_;first|(refine zq.nil ?_)|(refine zq.ev zx rfl ?_)|(refine zo ?_;first|(refine zq.ans (zk.zm zx rfl rfl rfl rfl) ?_))|(refine qx ?_;first|(refine zq.ans (zk.z8 zx rfl rfl rfl) ?_))|(refine xk ?_;first|(refine zq.ans (zk.add rfl rfl ?_) ?_;(focus (constructor <;> omega)))))|(refine zH ?_;first|(refine WL.seq ?_)|(refine WL.region (by kernel_rfl) ?_)|(refine WL.drawn (id:=12) [0,1,2,3,4,5,6,7,8,9,10,11,12,13,14,15,16,17,18,19,20,21,22,23,24,25,26,27,28,29] [] [[],[0],[],[0,1,2],[0,1,2,3],[0,1,2,3,4],[0,1,2,3,4,5],[0,1,2,3,4,5,6],[0,1,2,3,4,5,6,7],[0,1,2,3,4,5,6,7,8],[0,1,2,3,4,5,6,7,8],[0,1,2,3,4,5,6,7,8,10],[0,1,2,3,4,5,6,7,8],[0,1,2,3,4,5,6,7,8,10,11,12],[0,1,2,3,4,5,6,7,8,10,11,12,13],[0,1,2,3,4,5,6,7,8,10,11,12,13,14],[0,1,2,3,4,5,6,7,8,9,10,11,12,13,14,15],[0,1,2,3,4,5,6,7,8],[0,1,2,3,4,5,6,7,8,9,10,11,12,13,14,15,16,17],[0,1,2,3,4,5,6,7,8,9,10,11,12,13,14,15,16,17,18],[0,1,2,3,4,5,6,7,8,9,10,11,12,13,14,15,16,17,18,19],[0,1,2,3,4,5,6,7,8,9,10,11,12,13,14,15,16,17,18,19,20],[0,1,2,3,4,5,6,7,8,9,10,11,12,13,14,15,16,17,18,19,20,21],[0,1,2,3,4,5,6,7,8,9,10,11,12,13,14,15,16,17,18,19,20],[0,1,2,3,4,5,6,7,8,9,10,11,12,13,14,15,16,17,18,19,20,21,22,23],[0,1,2,3,4,5,6,7,8,9,10,11,12,13,14,15,16,17,18,19,20,21,22,23,24],[0,1,2,3,4,5,6,7,8,9,10,11,12,13,14,15,16,17,18,19,20,21,22,23,24,25],[0,1,2,3,4,5,6,7,8,9,10,11,12,13,14,15,16,17,18,19,20,21,22,23,24,25,26],[0,1,2,3,4,5,6,7,8,9,10,11,12,13,14,15,16,17,18,19,20,21,22,23,24,25,26,27],[0,1,2,3,4,5,6,7,8,9,10,11,12,13,14,15,16,17,18,19,20,21,22,23,24,25,26,27,28]] (by kernel_rfl) (by kernel_rfl) ?_)|(refine WL.block ?_)|(refine WL.skip ?_)|(refine zu ?_;first|(refine WL.zJ rfl ?_ ?_;(focus (first|(simp <;> omega))))|(refine WL.zY rfl ?_ ?_;(focus (first|(simp <;> omega))))))|(refine vN ?_;first|(refine zA.nil ?_)|(refine zA.fl rfl rfl (.ev zx rfl) ?_)|(refine zA.gT rfl rfl rfl rfl rfl (.ev zx rfl) ?_)|(refine qo rfl ?_;first|(refine zA.fl rfl rfl (zk.zm zx rfl rfl rfl rfl) ?_)|(refine zA.gT rfl rfl rfl rfl rfl (zk.zm zx rfl rfl rfl rfl) ?_))|(refine kQ rfl ?_;first|(refine zA.fl rfl rfl (zk.yZ zx rfl rfl rfl rfl rfl (by omega) rfl rfl) ?_)|(refine zA.gT rfl rfl rfl rfl rfl (zk.yZ zx rfl rfl rfl rfl rfl (by omega) rfl rfl) ?_))|(refine qX 25 rfl ?_;first|(refine zA.fl rfl rfl (zk.ze rfl rfl rfl (Ze) (jh _ _)) ?_))|(refine qX 27 rfl ?_;first|(refine zA.gT rfl rfl rfl rfl rfl (zk.ze rfl rfl rfl (jO) (q9 _ _ _ _)) ?_))|(refine qX 28 rfl ?_;first|(refine zA.gT rfl rfl rfl rfl rfl (zk.ze rfl rfl rfl (BH) (bU x _ ?_ _)) ?_;(focus (omega))))|(refine zA.gD false rfl rfl rfl rfl ?_ ?_;(focus (first|(simp <;> omega)))))|(refine zw ?_)|(refine zQ ?_)
     all_goals
       refine qB.of (j+1) ?_ ?_ ?_ ?_
       · first | omega |(refine ⟨?_,?_⟩;(focus (first | omega |(simp;omega)));(first | omega |(simp_all [hcj,hp] <;> fail)|(simp_all [hcj,hp];omega)))|(simp_all [hcj,hp] <;> fail)|(simp_all [hcj,hp];omega)
       · first | omega |(simp;omega) | simp_all
       · repeat' first
           | exact qz.nil
           |(refine qz.mk rfl ?_ ?_)
           | rfl
           |(simp [hcj,hp] <;> fail)
           |(simp [hcj,hp];omega)
       · first | rfl |(simp [hcj,hp] <;> fail)|(simp [hcj,hp];omega)
   · rw [oZ RD] at hcj
     have hr:rowOk c i x=true:=by simp [rowOk,aS,hcj,q1,q2,q3]
     repeat' first|(refine zf ?_;first|(refine zq.nil ?_)|(refine zq.ev zx rfl ?_)|(refine zo ?_;first|(refine zq.ans (zk.zm zx rfl rfl rfl rfl) ?_))|(refine qx ?_;first|(refine zq.ans (zk.z8 zx rfl rfl rfl) ?_))|(refine xk ?_;first|(refine zq.ans (zk.add rfl rfl ?_) ?_;(focus (constructor <;> omega)))))|(refine zH ?_;first|(refine WL.seq ?_)|(refine WL.region (by kernel_rfl) ?_)|(refine WL.exit ?_)|(refine zu ?_;first|(refine WL.zY rfl ?_ ?_;(focus (first|(simp <;> omega))))))|(refine zw ?_)|(refine zC ?_)|(refine zQ ?_)|(refine zV ?_)|(refine zL ?_)
     all_goals
       refine qB.of (i+1) ?_ ?_ ?_ ?_
       · first | omega |(refine ⟨?_,?_⟩;(focus (first | omega |(simp;omega)));(first | omega |(simp_all [hc,hr] <;> fail)|(simp_all [hc,hr];omega)))|(simp_all [hc,hr] <;> fail)|(simp_all [hc,hr];omega)
       · first | omega |(simp;omega) | simp_all
       · repeat' first
           | exact qz.nil
           |(refine qz.mk rfl ?_ ?_)
           | rfl
           |(simp [hc,hr] <;> fail)
           |(simp [hc,hr];omega)
       · first | rfl |(simp [hc,hr] <;> fail)|(simp [hc,hr];omega)
 · rw [oZ hge] at hc
   repeat' first|(refine zf ?_;first|(refine zq.nil ?_)|(refine zq.ev zx rfl ?_)|(refine zo ?_;first|(refine zq.ans (zk.zm zx rfl rfl rfl rfl) ?_))|(refine qx ?_;first|(refine zq.ans (zk.z8 zx rfl rfl rfl) ?_)))|(refine zH ?_;first|(refine WL.seq ?_)|(refine WL.region (by kernel_rfl) ?_)|(refine WL.exit ?_)|(refine WL.ret ?_)|(refine zu ?_;first|(refine WL.zY rfl ?_ ?_;(focus (first|(simp <;> omega))))))|(refine zw ?_)|(refine zC ?_)|(refine zV ?_)|(refine zL ?_)|(refine zh.r1 (r := .tmp 2) (.inl rfl) (zn.tmp rfl) ?_)|(refine zX.mk ?_)
   simp [wF,hc];omega
end Go.Proofs.YtolhegocbkckdaaGreat
