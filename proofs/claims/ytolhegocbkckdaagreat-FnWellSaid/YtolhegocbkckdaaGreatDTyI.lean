/-
 The types of plans' trees, of the program. Own work; no condition.
-/
import Derived.Test.YtolhegocbkckdaaGreatDTyG
namespace Go.Proofs.YtolhegocbkckdaaGreat
open Go
set_option linter.unusedSimpArgs false
set_option linter.unusedVariables false
theorem Yg {c:jy} {env:List (List Int)} {p:PL} {l:List Int} (h:PE.ZA c env p=some l):l.length=p.items.length:=by
 rw [PE.Kz] at h
 split at h
 · split at h
   · split at h
     · split at h
       · exact PE.iE _ _ h
       · cases h
     · cases h
   · cases h
 · cases h
set_option maxHeartbeats 8000000 in
theorem Kc (c:jy) (hc:c.wt≤1048576) (e:PE):qV e.v≤1048576→FK Tryz.prog 23 c e:=by
 induction e using PE.ind with
 | h e ih1 ih2 =>
   intro hw env hb hr s
   have e1:=PE.wG e
   have e2:=gW e.kids
   have hkl:=xW PE.zF e.kids
   have hsl:=xW PE.xu e.sub
   have hE0:∀ k∈e.kids,∀ s,VCalls Tryz.prog 23 [c.zF,jH env,k.v] s (fun v s'=>v=eU (k.ty c env)∧s'=s):=fun k hk=>ih1 k hk (Nat.le_trans (PE.vD hk) hw) env (by have:=PE.vD hk;omega) hr
   have MV:∀ p∈e.sub,∀ s,VCalls Tryz.prog 7 [c.zF,jH env,p.v] s (fun v s'=>v=iw (PE.ZA c env p)∧s'=s):=fun p hp=>fA c p hc (Nat.le_trans (PE.jB hp) hw) (fun k hk=>ih2 p hp k hk (Nat.le_trans (PL.jq hk) (Nat.le_trans (PE.jB hp) hw))) env (by have:=PE.jB hp;omega) hr
   have hS:=fun t=>Qn e (by omega) (by omega) t
   clear ih1 ih2
   rw [PE.Ai]
   cases hsh:e.shape <;> rw [hsh] at hS
   · simp only [Bool.false_eq_true, if_false]
     refine zi.pure Tryz.func23 rfl (by kernel_rfl) (by simp) ?_
     repeat' first|(refine zf ?_;first|(refine zq.nil ?_)|(refine zq.ev zx rfl ?_)|(refine qW ?_;refine zq.box rfl rfl rfl rfl ?_)|(refine zo ?_;first|(refine zq.ans (zk.zm zx rfl rfl rfl rfl) ?_))|(refine zy 59 ?_;first|(refine zq.ans (zk.ze rfl rfl rfl (Vs) (hS _)) ?_)))|(refine zH ?_;first|(refine WL.seq ?_)|(refine WL.region (by kernel_rfl) ?_)|(refine WL.ret ?_)|(refine zu ?_;first|(refine WL.qb rfl ?_)))|(refine zw ?_)|(refine zZ ?_)|(refine zh.r2 (r := .tmp 6) (r' := .tmp 7) (.inl rfl) (zn.tmp rfl) (zn.tmp rfl) ?_)|(refine zX.mk ?_)
     rfl
   simp only [if_true]
   have hf:=rA hsh
   by_cases hk2:e.kind=2
   · have h12:e.kids=[]∧e.sub=[]:=by
       rcases hf with ⟨hk,h1,h2⟩ | ⟨hk,h1,h2⟩ | ⟨hk,⟨a,h1⟩,h2⟩ | ⟨hk,⟨a,b,h1⟩,h2⟩ | ⟨hk,h2⟩ | ⟨hk,h2⟩ | ⟨hk,h2⟩ | ⟨hk,p,h2⟩ | ⟨hk,h1,p,h2⟩ <;> first | exact ⟨h1,h2⟩ |(exfalso;omega)
     rw [h12.1,h12.2,ah]
     simp only [PE.fE]
     rw [show resT env e.kind e.op e.value e.up e.pos [] []=gN env e.up e.pos by simp [resT,hk2]]
     by_cases u0:e.up<0
     · rw [ZH (by simp only [jw, Bool.and_eq_false_iff, decide_eq_false_iff_not]; omega)]
       refine zi.pure Tryz.func23 rfl (by kernel_rfl) (by simp) ?_
       repeat' first|(refine zf ?_;first|(refine zq.nil ?_)|(refine zq.ev zx rfl ?_)|(refine qW ?_;refine zq.box rfl rfl rfl rfl ?_)|(refine zo ?_;first|(refine zq.ans (zk.zm zx rfl rfl rfl rfl) ?_))|(refine zy 59 ?_;first|(refine zq.ans (zk.ze rfl rfl rfl (Vs) (hS _)) ?_)))|(refine zH ?_;first|(refine WL.seq ?_)|(refine WL.region (by kernel_rfl) ?_)|(refine WL.drawn (id:=4) [0,1,2,3,4,5,6,7,8,9,10,11,12,13,14,15,16,17,18,19,20,21,22,23,24,25] [] [[],[0],[0,1],[0,1,2],[0,1,2,3],[0,1,2,3,4],[0,1,2,3],[0,1,2,3,6],[0,1,2,3,4,5,6,7],[0,1,2,3,4,5,6,7,8],[0,1,2,3,4,5,6,7,8,9],[0,1,2,3,4,5,6,7,8,9,10],[0,1,2,3,4,5,6,7,8,9,10,11],[0,1,2,3,4,5,6,7,8,9,10,11,12],[0,1,2,3,4,5,6,7,8,9,10,11,12,13],[0,1,2,3,4,5,6,7,8,9,10,11,12,13,14],[0,1,2,3,4,5,6,7,8,9,10,11,12,13,14,15],[0,1,2,3,4,5,6,7,8,9,10,11,12,13,14,15,16],[0,1,2,3,4,5,6,7,8,9,10,11,12,13,14,15],[0,1,2,3,4,5,6,7,8,9,10,11,12,13,14,15],[0,1,2,3,4,5,6,7,8,9,10,11,12,13,14,15,19],[0,1,2,3,4,5,6,7,8,9,10,11,12,13,14,15,18,19,20],[0,1,2,3,4,5,6,7,8,9,10,11,12,13,14,15,18,19,20,21],[0,1,2,3,4,5,6,7,8,9,10,11,12,13,14,15,18,19,20,21,22],[0,1,2,3,4,5,6,7,8,9,10,11,12,13,14,15,16,17,18,19,20,21,22,23],[0,1,2,3,4,5,6,7,8,9,10,11,12,13,14,15,16,17,18,19,20,21,22,23,24]] (by kernel_rfl) (by kernel_rfl) ?_)|(refine WL.skip ?_)|(refine WL.ret ?_)|(refine zu ?_;first|(refine WL.qb rfl ?_)|(refine WL.qQ rfl ?_)|(refine WL.zJ rfl ?_ ?_;(focus (first|(exact decide_eq_true (by assumption)))))))|(refine vN ?_;first|(refine zA.nil ?_)|(refine zA.fl rfl rfl (.ev zx rfl) ?_)|(refine zA.gF rfl rfl rfl rfl rfl ?_)|(refine qo rfl ?_;first|(refine zA.fl rfl rfl (zk.zm zx rfl rfl rfl rfl) ?_))|(refine zA.gD true rfl rfl rfl rfl ?_ ?_;(focus (first|(exact decide_eq_true (by assumption))))))|(refine zw ?_)|(refine zZ ?_)|(refine zh.r2 (r := .tmp 6) (r' := .tmp 7) (.inl rfl) (zn.tmp rfl) (zn.tmp rfl) ?_)|(refine zX.mk ?_)
       rfl
     by_cases u1:(env.length:Int)≤e.up
     · rw [ZH (by simp only [jw, Bool.and_eq_false_iff, decide_eq_false_iff_not]; omega)]
       refine zi.pure Tryz.func23 rfl (by kernel_rfl) (by simp) ?_
       repeat' first|(refine zf ?_;first|(refine zq.nil ?_)|(refine zq.ev zx rfl ?_)|(refine qW ?_;refine zq.box rfl rfl rfl rfl ?_)|(refine zo ?_;first|(refine zq.ans (zk.zm zx rfl rfl rfl rfl) ?_))|(refine zy 59 ?_;first|(refine zq.ans (zk.ze rfl rfl rfl (Vs) (hS _)) ?_)))|(refine zH ?_;first|(refine WL.seq ?_)|(refine WL.region (by kernel_rfl) ?_)|(refine WL.drawn (id:=4) [0,1,2,3,4,5,6,7,8,9,10,11,12,13,14,15,16,17,18,19,20,21,22,23,24,25] [] [[],[0],[0,1],[0,1,2],[0,1,2,3],[0,1,2,3,4],[0,1,2,3],[0,1,2,3,6],[0,1,2,3,4,5,6,7],[0,1,2,3,4,5,6,7,8],[0,1,2,3,4,5,6,7,8,9],[0,1,2,3,4,5,6,7,8,9,10],[0,1,2,3,4,5,6,7,8,9,10,11],[0,1,2,3,4,5,6,7,8,9,10,11,12],[0,1,2,3,4,5,6,7,8,9,10,11,12,13],[0,1,2,3,4,5,6,7,8,9,10,11,12,13,14],[0,1,2,3,4,5,6,7,8,9,10,11,12,13,14,15],[0,1,2,3,4,5,6,7,8,9,10,11,12,13,14,15,16],[0,1,2,3,4,5,6,7,8,9,10,11,12,13,14,15],[0,1,2,3,4,5,6,7,8,9,10,11,12,13,14,15],[0,1,2,3,4,5,6,7,8,9,10,11,12,13,14,15,19],[0,1,2,3,4,5,6,7,8,9,10,11,12,13,14,15,18,19,20],[0,1,2,3,4,5,6,7,8,9,10,11,12,13,14,15,18,19,20,21],[0,1,2,3,4,5,6,7,8,9,10,11,12,13,14,15,18,19,20,21,22],[0,1,2,3,4,5,6,7,8,9,10,11,12,13,14,15,16,17,18,19,20,21,22,23],[0,1,2,3,4,5,6,7,8,9,10,11,12,13,14,15,16,17,18,19,20,21,22,23,24]] (by kernel_rfl) (by kernel_rfl) ?_)|(refine WL.skip ?_)|(refine WL.ret ?_)|(refine zu ?_;first|(refine WL.qb rfl ?_)|(refine WL.qQ rfl ?_)|(refine WL.zJ rfl ?_ ?_;(focus (first|(exact decide_eq_true (by assumption)))))))|(refine vN ?_;first|(refine zA.nil ?_)|(refine zA.fl rfl rfl (.ev zx rfl) ?_)|(refine zA.gF rfl rfl rfl rfl rfl ?_)|(refine zA.gT rfl rfl rfl rfl rfl (.ev zx rfl) ?_)|(refine qo rfl ?_;first|(refine zA.fl rfl rfl (zk.zm zx rfl rfl rfl rfl) ?_)|(refine zA.gT rfl rfl rfl rfl rfl (zk.zm zx rfl rfl rfl rfl) ?_))|(refine uM rfl ?_;first|(refine zA.gT rfl rfl rfl rfl rfl (zk.z8 zx rfl rfl rfl) ?_))|(refine zA.gD true rfl rfl rfl rfl ?_ ?_;(focus (first|(exact decide_eq_true (by assumption)))))|(refine zA.gD false rfl rfl rfl rfl ?_ ?_;(focus (first|(exact decide_eq_false (by assumption))))))|(refine zw ?_)|(refine zZ ?_)|(refine zh.r2 (r := .tmp 6) (r' := .tmp 7) (.inl rfl) (zn.tmp rfl) (zn.tmp rfl) ?_)|(refine zX.mk ?_)
       rfl
     obtain ⟨n,hn⟩:∃ n:Nat,e.up=(n:Int):=⟨e.up.toNat,by omega⟩
     have hnl:n<env.length:=by omega
     have hrl:=hr _ (List.getElem_mem hnl)
     have hgu:(env.map ints)[n]?=some (ints env[n]):=by simp [hnl]
     have hcn:=fun h=>Q8 (pos:=e.pos) hnl h
     have hcy:=fun m h=>Q9 (m:=m) hnl h
     rw [hn]
     generalize env[n]=row at hrl hgu hcn hcy
     by_cases p0:e.pos<0
     · rw [hcn (by simp only [jw, Bool.and_eq_false_iff, decide_eq_false_iff_not]; omega)]
       refine zi.pure Tryz.func23 rfl (by kernel_rfl) (by simp) ?_
       repeat' first|(refine zf ?_;first|(refine zq.nil ?_)|(refine zq.ev zx rfl ?_)|(refine qW ?_;refine zq.box rfl rfl rfl rfl ?_)|(refine zo ?_;first|(refine zq.ans (zk.zm zx rfl rfl rfl rfl) ?_))|(refine zy 59 ?_;first|(refine zq.ans (zk.ze rfl rfl rfl (Vs) (hS _)) ?_)))|(refine zH ?_;first|(refine WL.seq ?_)|(refine WL.region (by kernel_rfl) ?_)|(refine WL.drawn (id:=4) [0,1,2,3,4,5,6,7,8,9,10,11,12,13,14,15,16,17,18,19,20,21,22,23,24,25] [] [[],[0],[0,1],[0,1,2],[0,1,2,3],[0,1,2,3,4],[0,1,2,3],[0,1,2,3,6],[0,1,2,3,4,5,6,7],[0,1,2,3,4,5,6,7,8],[0,1,2,3,4,5,6,7,8,9],[0,1,2,3,4,5,6,7,8,9,10],[0,1,2,3,4,5,6,7,8,9,10,11],[0,1,2,3,4,5,6,7,8,9,10,11,12],[0,1,2,3,4,5,6,7,8,9,10,11,12,13],[0,1,2,3,4,5,6,7,8,9,10,11,12,13,14],[0,1,2,3,4,5,6,7,8,9,10,11,12,13,14,15],[0,1,2,3,4,5,6,7,8,9,10,11,12,13,14,15,16],[0,1,2,3,4,5,6,7,8,9,10,11,12,13,14,15],[0,1,2,3,4,5,6,7,8,9,10,11,12,13,14,15],[0,1,2,3,4,5,6,7,8,9,10,11,12,13,14,15,19],[0,1,2,3,4,5,6,7,8,9,10,11,12,13,14,15,18,19,20],[0,1,2,3,4,5,6,7,8,9,10,11,12,13,14,15,18,19,20,21],[0,1,2,3,4,5,6,7,8,9,10,11,12,13,14,15,18,19,20,21,22],[0,1,2,3,4,5,6,7,8,9,10,11,12,13,14,15,16,17,18,19,20,21,22,23],[0,1,2,3,4,5,6,7,8,9,10,11,12,13,14,15,16,17,18,19,20,21,22,23,24]] (by kernel_rfl) (by kernel_rfl) ?_)|(refine WL.skip ?_)|(refine WL.ret ?_)|(refine zu ?_;first|(refine WL.qb rfl ?_)|(refine WL.qQ rfl ?_)|(refine WL.zJ rfl ?_ ?_;(focus (first|(exact decide_eq_true (by assumption)))))))|(refine vN ?_;first|(refine zA.nil ?_)|(refine zA.fl rfl rfl (.ev zx rfl) ?_)|(refine zA.gF rfl rfl rfl rfl rfl ?_)|(refine zA.gT rfl rfl rfl rfl rfl (.ev zx rfl) ?_)|(refine qo rfl ?_;first|(refine zA.fl rfl rfl (zk.zm zx rfl rfl rfl rfl) ?_)|(refine zA.gT rfl rfl rfl rfl rfl (zk.zm zx rfl rfl rfl rfl) ?_))|(refine uM rfl ?_;first|(refine zA.gT rfl rfl rfl rfl rfl (zk.z8 zx rfl rfl rfl) ?_))|(refine zA.gD true rfl rfl rfl rfl ?_ ?_;(focus (first|(exact decide_eq_true (by assumption)))))|(refine zA.gD false rfl rfl rfl rfl ?_ ?_;(focus (first|(exact decide_eq_false (by assumption))))))|(refine zw ?_)|(refine zZ ?_)|(refine zh.r2 (r := .tmp 6) (r' := .tmp 7) (.inl rfl) (zn.tmp rfl) (zn.tmp rfl) ?_)|(refine zX.mk ?_)
       rfl
     by_cases p1:(row.length:Int)≤e.pos
     · rw [hcn (by simp only [jw, Bool.and_eq_false_iff, decide_eq_false_iff_not]; omega)]
       refine zi.pure Tryz.func23 rfl (by kernel_rfl) (by simp) ?_
       repeat' first|(refine zf ?_;first|(refine zq.nil ?_)|(refine zq.ev zx rfl ?_)|(refine qW ?_;refine zq.box rfl rfl rfl rfl ?_)|(refine zo ?_;first|(refine zq.ans (zk.zm zx rfl rfl rfl rfl) ?_))|(refine zy 59 ?_;first|(refine zq.ans (zk.ze rfl rfl rfl (Vs) (hS _)) ?_)))|(refine zH ?_;first|(refine WL.seq ?_)|(refine WL.region (by kernel_rfl) ?_)|(refine WL.drawn (id:=4) [0,1,2,3,4,5,6,7,8,9,10,11,12,13,14,15,16,17,18,19,20,21,22,23,24,25] [] [[],[0],[0,1],[0,1,2],[0,1,2,3],[0,1,2,3,4],[0,1,2,3],[0,1,2,3,6],[0,1,2,3,4,5,6,7],[0,1,2,3,4,5,6,7,8],[0,1,2,3,4,5,6,7,8,9],[0,1,2,3,4,5,6,7,8,9,10],[0,1,2,3,4,5,6,7,8,9,10,11],[0,1,2,3,4,5,6,7,8,9,10,11,12],[0,1,2,3,4,5,6,7,8,9,10,11,12,13],[0,1,2,3,4,5,6,7,8,9,10,11,12,13,14],[0,1,2,3,4,5,6,7,8,9,10,11,12,13,14,15],[0,1,2,3,4,5,6,7,8,9,10,11,12,13,14,15,16],[0,1,2,3,4,5,6,7,8,9,10,11,12,13,14,15],[0,1,2,3,4,5,6,7,8,9,10,11,12,13,14,15],[0,1,2,3,4,5,6,7,8,9,10,11,12,13,14,15,19],[0,1,2,3,4,5,6,7,8,9,10,11,12,13,14,15,18,19,20],[0,1,2,3,4,5,6,7,8,9,10,11,12,13,14,15,18,19,20,21],[0,1,2,3,4,5,6,7,8,9,10,11,12,13,14,15,18,19,20,21,22],[0,1,2,3,4,5,6,7,8,9,10,11,12,13,14,15,16,17,18,19,20,21,22,23],[0,1,2,3,4,5,6,7,8,9,10,11,12,13,14,15,16,17,18,19,20,21,22,23,24]] (by kernel_rfl) (by kernel_rfl) ?_)|(refine WL.skip ?_)|(refine WL.ret ?_)|(refine zu ?_;first|(refine WL.qQ rfl ?_)|(refine WL.zJ rfl ?_ ?_;(focus (first|(exact decide_eq_true (by assumption)))))))|(refine vN ?_;first|(refine zA.nil ?_)|(refine zA.fl rfl rfl (.ev zx rfl) ?_)|(refine zA.gT rfl rfl rfl rfl rfl (.ev zx rfl) ?_)|(refine qo rfl ?_;first|(refine zA.fl rfl rfl (zk.zm zx rfl rfl rfl rfl) ?_)|(refine zA.gT rfl rfl rfl rfl rfl (zk.zm zx rfl rfl rfl rfl) ?_))|(refine uM rfl ?_;first|(refine zA.gT rfl rfl rfl rfl rfl (zk.z8 zx rfl rfl rfl) ?_))|(refine kQ rfl ?_;first|(refine zA.gT rfl rfl rfl rfl rfl (zk.idx (j:=n) zx rfl (congrArg (fun z=>some (V.int .i64 z)) hn) rfl rfl rfl hgu rfl rfl) ?_))|(refine zA.gD false rfl rfl rfl rfl ?_ ?_;(focus (first|(exact decide_eq_false (by assumption))))))|(refine zw ?_)|(refine zZ ?_)|(refine zh.r2 (r := .tmp 6) (r' := .tmp 7) (.inl rfl) (zn.tmp rfl) (zn.tmp rfl) ?_)|(refine zX.mk ?_)
       rfl
     obtain ⟨m,hm⟩:∃ m:Nat,e.pos=(m:Int):=⟨e.pos.toNat,by omega⟩
     have hml:m<row.length:=by omega
     have hgv:(row.map iV)[m]?=some (iV row[m]):=by simp [hml]
     rw [hm,hcy m hml]
     refine zi.pure Tryz.func23 rfl (by kernel_rfl) (by simp) ?_
     repeat' first|(refine zf ?_;first|(refine zq.nil ?_)|(refine zq.ev zx rfl ?_)|(refine qW ?_;refine zq.box rfl rfl rfl rfl ?_)|(refine zo ?_;first|(refine zq.ans (zk.zm zx rfl rfl rfl rfl) ?_))|(refine zy 59 ?_;first|(refine zq.ans (zk.ze rfl rfl rfl (Vs) (hS _)) ?_)))|(refine zH ?_;first|(refine WL.seq ?_)|(refine WL.region (by kernel_rfl) ?_)|(refine WL.drawn (id:=4) [0,1,2,3,4,5,6,7,8,9,10,11,12,13,14,15,16,17,18,19,20,21,22,23,24,25] [] [[],[0],[0,1],[0,1,2],[0,1,2,3],[0,1,2,3,4],[0,1,2,3],[0,1,2,3,6],[0,1,2,3,4,5,6,7],[0,1,2,3,4,5,6,7,8],[0,1,2,3,4,5,6,7,8,9],[0,1,2,3,4,5,6,7,8,9,10],[0,1,2,3,4,5,6,7,8,9,10,11],[0,1,2,3,4,5,6,7,8,9,10,11,12],[0,1,2,3,4,5,6,7,8,9,10,11,12,13],[0,1,2,3,4,5,6,7,8,9,10,11,12,13,14],[0,1,2,3,4,5,6,7,8,9,10,11,12,13,14,15],[0,1,2,3,4,5,6,7,8,9,10,11,12,13,14,15,16],[0,1,2,3,4,5,6,7,8,9,10,11,12,13,14,15],[0,1,2,3,4,5,6,7,8,9,10,11,12,13,14,15],[0,1,2,3,4,5,6,7,8,9,10,11,12,13,14,15,19],[0,1,2,3,4,5,6,7,8,9,10,11,12,13,14,15,18,19,20],[0,1,2,3,4,5,6,7,8,9,10,11,12,13,14,15,18,19,20,21],[0,1,2,3,4,5,6,7,8,9,10,11,12,13,14,15,18,19,20,21,22],[0,1,2,3,4,5,6,7,8,9,10,11,12,13,14,15,16,17,18,19,20,21,22,23],[0,1,2,3,4,5,6,7,8,9,10,11,12,13,14,15,16,17,18,19,20,21,22,23,24]] (by kernel_rfl) (by kernel_rfl) ?_)|(refine WL.drawn (id:=6) [0,1,2,3,4,5,6,7,8,9,10] [] [[],[],[1],[0,1,2],[0,1,2,3],[],[5],[0,1,2,3,4,5,6],[0,1,2,3,4,5,6,7],[0,1,2,3,4,5,6,7,8],[0,1,2,3,4,5,6,7,8,9]] (by kernel_rfl) (by kernel_rfl) ?_)|(refine WL.skip ?_)|(refine WL.ret ?_)|(refine zu ?_;first|(refine WL.qQ rfl ?_)|(refine WL.zJ rfl ?_ ?_;(focus (first|(exact decide_eq_true (by assumption)))))|(refine WL.zY rfl ?_ ?_;(focus (first|(exact decide_eq_false (by assumption)))))))|(refine vN ?_;first|(refine zA.nil ?_)|(refine zA.fl rfl rfl (.ev zx rfl) ?_)|(refine zA.gT rfl rfl rfl rfl rfl (.ev zx rfl) ?_)|(refine qo rfl ?_;first|(refine zA.fl rfl rfl (zk.zm zx rfl rfl rfl rfl) ?_)|(refine zA.gT rfl rfl rfl rfl rfl (zk.zm zx rfl rfl rfl rfl) ?_))|(refine uM rfl ?_;first|(refine zA.gT rfl rfl rfl rfl rfl (zk.z8 zx rfl rfl rfl) ?_))|(refine kQ rfl ?_;first|(refine zA.fl rfl rfl (zk.idx (j:=n) zx rfl (congrArg (fun z=>some (V.int .i64 z)) hn) rfl rfl rfl hgu rfl rfl) ?_)|(refine zA.gT rfl rfl rfl rfl rfl (zk.idx (j:=n) zx rfl (congrArg (fun z=>some (V.int .i64 z)) hn) rfl rfl rfl hgu rfl rfl) ?_)|(refine zA.fl rfl rfl (zk.idx (j:=m) zx rfl (congrArg (fun z=>some (V.int .i64 z)) hm) rfl rfl rfl hgv rfl rfl) ?_))|(refine zA.gD false rfl rfl rfl rfl ?_ ?_;(focus (first|(exact decide_eq_false (by assumption))))))|(refine zw ?_)|(refine zZ ?_)|(refine zh.r2 (r := .tmp 6) (r' := .tmp 7) (.inl rfl) (zn.tmp rfl) (zn.tmp rfl) ?_)|(refine zX.mk ?_)
     rfl
   refine zi.pure Tryz.func23 rfl (by kernel_rfl) (by simp) ?_
   repeat' first|(refine zf ?_;first|(refine zq.nil ?_)|(refine zq.ev zx rfl ?_)|(refine qW ?_;refine zq.box rfl rfl rfl rfl ?_)|(refine kZ ?_;first|(refine zq.uT zx rfl rfl rfl rfl rfl ?_))|(refine zo ?_;first|(refine zq.ans (zk.zm zx rfl rfl rfl rfl) ?_))|(refine qx ?_;first|(refine zq.ans (zk.z8 zx rfl rfl rfl) ?_))|(refine zy 59 ?_;first|(refine zq.ans (zk.ze rfl rfl rfl (Vs) (hS _)) ?_)))|(refine zH ?_;first|(refine WL.seq ?_)|(refine WL.region (by kernel_rfl) ?_)|(refine WL.block ?_)|(refine WL.skip ?_)|(refine zu ?_;first|(refine WL.qQ rfl ?_)|(refine WL.zY rfl ?_ ?_;(focus (first|(exact decide_eq_false (by assumption)))))))|(refine zw ?_)
   refine WL.mV (t:=8) 1 rfl rfl rfl rfl ?_
   refine WL.xK (fun x:Nat × List Int=>e.kids.length - x.1) (fun x=>[(1,jH env),(3,.ptr (s.next+0) 0),(5,.ptr (s.next+1) 0),(8,.sl (s.next+2) (x.2.map iV)),(9,.jo),(62,.sl 0 (e.kids.map PE.zF)),(63,.int .i64 e.kids.length),(64,.int .i64 (x.1:Int))]) (fun x=>[.var [.sl 0 (c.tables.map Tab.zF)],.var e.v.cells,.fam x.2.length 1])
     (fun x=>x.1≤e.kids.length∧PE.fE c env (e.kids.take x.1)=some x.2) 3 (0,[]) ⟨by simp,by simp [PE.fE]⟩ (fun _=>rfl) ⟨rfl,rfl,rfl,rfl,rfl,rfl,rfl,rfl,trivial⟩ rfl (fun i hi=>?_) (fun i hi=>?_)
   · simp [qF,qG,Own.under,V.under,V.zO,PE.v,V.cells,jH,ints]
   obtain ⟨i,ts⟩:=i
   obtain ⟨hi,ht⟩:=hi
   try dsimp only at hi ht ⊢
   have htl:=PE.iE c env ht
   rw [List.length_take] at htl
   rcases Nat.lt_or_ge i e.kids.length with hlt | hge
   · have hga : (e.kids.map PE.zF)[i]? = some (PE.v e.kids[i]) := by rw [List.getElem?_map, List.getElem?_eq_getElem hlt]; simp only [Option.map_some, PE.qK]
     have hE:=hE0 _ (List.getElem_mem hlt)
     have hn:=fun h=>PE.uf hlt ht h
     have hs:=fun t h=>PE.ug (t:=t) hlt ht h
     generalize e.kids[i]=x at hga hE hn hs
     cases ho:PE.ty c env x with
     | none =>
       rw [ho] at hE
       rw [hn ho]
       repeat' first|(refine zf ?_;first|(refine zq.nil ?_)|(refine zU ?_;refine zq.qD zx rfl rfl rfl rfl rfl rfl rfl rfl rfl ?_)|(refine zq.ev zx rfl ?_)|(refine qj ?_;refine zq.alloc zx rfl rfl rfl rfl ?_)|(refine zo ?_;first|(refine zq.ans (zk.zm zx rfl rfl rfl rfl) ?_))|(refine xw ?_;first|(refine zq.ans (zk.idx zx rfl rfl rfl rfl rfl hga rfl rfl) ?_))|(refine zy 23 ?_;first|(refine zq.ans (zk.ze rfl rfl rfl (Ju) (hE _)) ?_)))|(refine zH ?_;first|(refine WL.seq ?_)|(refine WL.region (by kernel_rfl) ?_)|(refine WL.block ?_)|(refine WL.skip ?_)|(refine WL.ret ?_)|(refine zu ?_;first|(refine WL.qb rfl ?_)|(refine WL.zJ rfl ?_ ?_;(focus (first|(simp <;> omega))))))|(refine zw ?_)|(refine zZ ?_)|(refine zB ?_)|(refine qH ?_)|(refine zh.r2 (r := .tmp 6) (r' := .tmp 7) (.inl rfl) (zn.tmp rfl) (zn.tmp rfl) ?_)|(refine zX.mk ?_)
       rfl
     | some t =>
       rw [ho] at hE
       have hs:=hs t ho
       repeat' first|(refine zf ?_;first|(refine zq.nil ?_)|(refine zU ?_;refine zq.qD zx rfl rfl rfl rfl rfl rfl rfl rfl rfl ?_)|(refine zq.ev zx rfl ?_)|(refine qj ?_;refine zq.alloc zx rfl rfl rfl rfl ?_)|(refine kZ ?_;first|(refine zq.Kl zx rfl rfl rfl rfl rfl rfl rfl rfl rfl rfl rfl ?_))|(refine ji ?_;first|(refine zq.app zx rfl rfl rfl rfl rfl rfl rfl rfl rfl rfl rfl ?_ ?_ (xU.of ?_ rfl) ?_;(focus (first | rfl |(simp <;> fail)));(focus (first | exact zS.of rfl | exact zS.map fun _=>rfl | exact PE.els _ (fun _=>rfl) _));(focus (first | omega |(simp;omega)))))|(refine zo ?_;first|(refine zq.ans (zk.zm zx rfl rfl rfl rfl) ?_))|(refine xk ?_;first|(refine zq.ans (zk.add rfl rfl ?_) ?_;(focus (constructor <;> omega))))|(refine xw ?_;first|(refine zq.ans (zk.idx zx rfl rfl rfl rfl rfl hga rfl rfl) ?_))|(refine zy 23 ?_;first|(refine zq.ans (zk.ze rfl rfl rfl (Ju) (hE _)) ?_)))|(refine zH ?_;first|(refine WL.seq ?_)|(refine WL.region (by kernel_rfl) ?_)|(refine WL.block ?_)|(refine WL.skip ?_)|(refine zu ?_;first|(refine WL.qQ rfl ?_)|(refine WL.zJ rfl ?_ ?_;(focus (first|(simp <;> omega))))))|(refine zw ?_)|(refine zQ ?_)
       refine qB.of (i+1,ts++[t]) ⟨hlt,hs⟩ (by show e.kids.length - (i+1)<e.kids.length - i;omega) ?_ ?_
       · rw [List.map_append]
         repeat' first | exact qz.nil |(refine qz.mk rfl ?_ ?_) | rfl |(simp <;> fail)|(simp;omega)
       · simp [PE.v,V.cells]
   rw [List.take_of_length_le hge] at ht
   rw [Nat.min_eq_right (by omega)] at htl
   rw [ht]
   dsimp only
   clear hE0
   have k3:e.kind=3→ts.length=1:=fun h=>by
     rcases hf with ⟨hk,h1,h2⟩ | ⟨hk,h1,h2⟩ | ⟨hk,⟨a,h1⟩,h2⟩ | ⟨hk,⟨a,b,h1⟩,h2⟩ | ⟨hk,h2⟩ | ⟨hk,h2⟩ | ⟨hk,h2⟩ | ⟨hk,p,h2⟩ | ⟨hk,h1,p,h2⟩ <;> first|(exfalso;omega)|(rw [htl,h1];rfl)
   have k4:e.kind=4→ts.length=2:=fun h=>by
     rcases hf with ⟨hk,h1,h2⟩ | ⟨hk,h1,h2⟩ | ⟨hk,⟨a,h1⟩,h2⟩ | ⟨hk,⟨a,b,h1⟩,h2⟩ | ⟨hk,h2⟩ | ⟨hk,h2⟩ | ⟨hk,h2⟩ | ⟨hk,p,h2⟩ | ⟨hk,h1,p,h2⟩ <;> first|(exfalso;omega)|(rw [htl,h1];rfl)
   have hsub:(e.sub=[]∧¬ e.kind=8∧¬ e.kind=9)∨∃ p,e.sub=[p]∧(e.kind=8∨e.kind=9):=by
     rcases hf with ⟨hk,h1,h2⟩ | ⟨hk,h1,h2⟩ | ⟨hk,⟨a,h1⟩,h2⟩ | ⟨hk,⟨a,b,h1⟩,h2⟩ | ⟨hk,h2⟩ | ⟨hk,h2⟩ | ⟨hk,h2⟩ | ⟨hk,p,h2⟩ | ⟨hk,h1,p,h2⟩ <;> first | exact .inl ⟨h2,by omega,by omega⟩ | exact .inr ⟨p,h2,by omega⟩
   clear hf
   have hpe:e.v.forget=e.v:=vB _ (PE.eu e)
   rcases hsub with ⟨h2,RG,RH⟩ | ⟨p,h2,LD⟩
   · have hs0 : e.sub.length = 0 := by rw [h2]; rfl
     have hT:∀ id t,VCalls Tryz.prog 60 [e.v,.sl id (ts.map iV),.jo] t (fun v t'=>v=eU (bg e ts [])∧t'=t):=fun id t=>VCalls.forget (by
       rw [show List.map V.forget [e.v,.sl id (ts.map iV),.jo]=[e.v,ints ts,ints []] by simp [V.forget,V.xL,ints,hpe,Function.comp_def]]
       exact dB e ts [] (by omega) (by simp) k3 k4 t)
     have er:resT env e.kind e.op e.value e.up e.pos ts []=bg e ts []:=by simp [resT,bg,hk2,RG,RH]
     rw [show PE.X9 c env e.sub=some [] by rw [h2,ah]]
     dsimp only
     rw [er]
     generalize bg e ts []=o at hT ⊢
     repeat' first|(refine zf ?_;first|(refine zq.nil ?_)|(refine zq.ev zx rfl ?_)|(refine zo ?_;first|(refine zq.ans (zk.zm zx rfl rfl rfl rfl) ?_))|(refine qx ?_;first|(refine zq.ans (zk.z8 zx rfl rfl rfl) ?_)))|(refine zH ?_;first|(refine WL.seq ?_)|(refine WL.region (by kernel_rfl) ?_)|(refine WL.block ?_)|(refine WL.exit ?_)|(refine zu ?_;first|(refine WL.zY rfl ?_ ?_;(focus (first|(simp <;> omega))))))|(refine zw ?_)|(refine zC ?_)|(refine zV ?_)|(refine zL ?_)
     refine WL.xK (fun i:Nat=>1 - i) (fun i=>[(1,jH env),(3,.ptr (s.next+0) 0),(5,.ptr (s.next+1) 0),(8,.sl (s.next+2) (ts.map iV)),(9,.jo),(83,.sl 0 (e.sub.map PE.xu)),(84,.int .i64 e.sub.length),(85,.int .i64 (i:Int))]) (fun i=>[.var [.sl 0 (c.tables.map Tab.zF)],.var e.v.cells,.fam ts.length 1]) (fun i=>i=0) 3 0 rfl (fun _=>rfl) ⟨rfl,rfl,rfl,rfl,rfl,rfl,rfl,rfl,trivial⟩ rfl (fun i hi=>?_) (fun i hi=>?_)
     · simp [qF,qG,Own.under,V.under,V.zO,PE.v,V.cells,jH,ints]
     subst hi
     cases o
     all_goals
       repeat' first|(refine zf ?_;first|(refine zq.nil ?_)|(refine zq.ev zx rfl ?_)|(refine zo ?_;first|(refine zq.ans (zk.zm zx rfl rfl rfl rfl) ?_))|(refine zy 60 ?_;first|(refine zq.ans (zk.ze rfl rfl rfl (Hy) (hT _ _)) ?_)))|(refine zH ?_;first|(refine WL.seq ?_)|(refine WL.region (by kernel_rfl) ?_)|(refine WL.exit ?_)|(refine WL.ret ?_)|(refine zu ?_;first|(refine WL.zY rfl ?_ ?_;(focus (first|(simp <;> omega))))))|(refine zw ?_)|(refine zC ?_)|(refine zV ?_)|(refine zL ?_)|(refine zh.r2 (r := .tmp 6) (r' := .tmp 7) (.inl rfl) (zn.tmp rfl) (zn.tmp rfl) ?_)|(refine zX.mk ?_)
       rfl
   · have JA := MV p (by rw [h2]; simp)
     have hs1:e.sub.length=1:=by rw [h2];rfl
     have hgs:(e.sub.map PE.xu)[0]?=some (PL.v p):=by rw [h2];simp [PE.kX]
     rw [show PE.X9 c env e.sub=(PE.ZA c env p).map fun l=>[l] by rw [h2,Ku]]
     cases hty:PE.ZA c env p with
     | none =>
       rw [hty] at JA
       repeat' first|(refine zf ?_;first|(refine zq.nil ?_)|(refine zq.ev zx rfl ?_)|(refine zo ?_;first|(refine zq.ans (zk.zm zx rfl rfl rfl rfl) ?_))|(refine qx ?_;first|(refine zq.ans (zk.z8 zx rfl rfl rfl) ?_)))|(refine zH ?_;first|(refine WL.seq ?_)|(refine WL.region (by kernel_rfl) ?_)|(refine WL.block ?_)|(refine WL.exit ?_)|(refine zu ?_;first|(refine WL.zY rfl ?_ ?_;(focus (first|(simp <;> omega))))))|(refine zw ?_)|(refine zC ?_)|(refine zV ?_)|(refine zL ?_)
       refine WL.xK (fun i:Nat=>1 - i) (fun i=>[(1,jH env),(3,.ptr (s.next+0) 0),(5,.ptr (s.next+1) 0),(8,.sl (s.next+2) (ts.map iV)),(9,.jo),(83,.sl 0 (e.sub.map PE.xu)),(84,.int .i64 e.sub.length),(85,.int .i64 (i:Int))]) (fun i=>[.var [.sl 0 (c.tables.map Tab.zF)],.var e.v.cells,.fam ts.length 1]) (fun i=>i=0) 3 0 rfl (fun _=>rfl) ⟨rfl,rfl,rfl,rfl,rfl,rfl,rfl,rfl,trivial⟩ rfl (fun i hi=>?_) (fun i hi=>?_)
       · simp [qF,qG,Own.under,V.under,V.zO,PE.v,V.cells,jH,ints]
       subst hi
       repeat' first|(refine zf ?_;first|(refine zq.nil ?_)|(refine kG ?_;first|(refine zq.gF rfl rfl rfl ?_)|(refine zq.gU rfl rfl ?_))|(refine zU ?_;refine zq.qD zx rfl rfl rfl rfl rfl rfl rfl rfl rfl ?_)|(refine zq.ev zx rfl ?_)|(refine qj ?_;refine zq.alloc zx rfl rfl rfl rfl ?_)|(refine zo ?_;first|(refine zq.ans (zk.zm zx rfl rfl rfl rfl) ?_))|(refine xw ?_;first|(refine zq.ans (zk.idx (j:=0) zx rfl rfl rfl rfl rfl hgs rfl rfl) ?_))|(refine zy 7 ?_;first|(refine zq.ans (zk.ze rfl rfl rfl (AA) (JA _)) ?_)))|(refine zH ?_;first|(refine WL.seq ?_)|(refine WL.region (by kernel_rfl) ?_)|(refine WL.block ?_)|(refine WL.skip ?_)|(refine WL.ret ?_)|(refine zu ?_;first|(refine WL.qb rfl ?_)|(refine WL.zJ rfl ?_ ?_;(focus (first|(simp <;> omega))))))|(refine zw ?_)|(refine zZ ?_)|(refine zB ?_)|(refine qH ?_)|(refine zh.r2 (r := .tmp 6) (r' := .tmp 7) (.inl rfl) (zn.tmp rfl) (zn.tmp rfl) ?_)|(refine zX.mk ?_)
       rfl
     | some l =>
       rw [hty] at JA
       simp only [Option.map_some]
       try dsimp only
       by_cases hl1:e.kind=8∧¬ l.length=1
       · obtain ⟨hk, hl1⟩ := hl1
         rw [show resT env e.kind e.op e.value e.up e.pos ts [l]=none by simp [resT,hk,hl1]]
         have hl2:¬ (l.length:Int)=1:=by omega
         repeat' first|(refine zf ?_;first|(refine zq.nil ?_)|(refine zq.ev zx rfl ?_)|(refine zo ?_;first|(refine zq.ans (zk.zm zx rfl rfl rfl rfl) ?_))|(refine qx ?_;first|(refine zq.ans (zk.z8 zx rfl rfl rfl) ?_)))|(refine zH ?_;first|(refine WL.seq ?_)|(refine WL.region (by kernel_rfl) ?_)|(refine WL.block ?_)|(refine WL.exit ?_)|(refine zu ?_;first|(refine WL.zY rfl ?_ ?_;(focus (first|(simp <;> omega))))))|(refine zw ?_)|(refine zC ?_)|(refine zV ?_)|(refine zL ?_)
         refine WL.xK (fun i:Nat=>1 - i) (fun i=>[(1,jH env),(3,.ptr (s.next+0) 0),(5,.ptr (s.next+1) 0),(8,.sl (s.next+2) (ts.map iV)),(9,.jo),(83,.sl 0 (e.sub.map PE.xu)),(84,.int .i64 e.sub.length),(85,.int .i64 (i:Int))]) (fun i=>[.var [.sl 0 (c.tables.map Tab.zF)],.var e.v.cells,.fam ts.length 1]) (fun i=>i=0) 3 0 rfl (fun _=>rfl) ⟨rfl,rfl,rfl,rfl,rfl,rfl,rfl,rfl,trivial⟩ rfl (fun i hi=>?_) (fun i hi=>?_)
         · simp [qF,qG,Own.under,V.under,V.zO,PE.v,V.cells,jH,ints]
         subst hi
         repeat' first|(refine zf ?_;first|(refine zq.nil ?_)|(refine kG ?_;first|(refine zq.gT rfl rfl rfl ?_)|(refine zq.gD true rfl rfl rfl ?_ ?_;(focus (first|(exact decide_eq_true (by assumption))))))|(refine zU ?_;refine zq.qD zx rfl rfl rfl rfl rfl rfl rfl rfl rfl ?_)|(refine zq.ev zx rfl ?_)|(refine qj ?_;refine zq.alloc zx rfl rfl rfl rfl ?_)|(refine zo ?_;first|(refine zq.ans (zk.zm zx rfl rfl rfl rfl) ?_))|(refine qx ?_;first|(refine zq.ans (zk.z8 zx rfl rfl rfl) ?_))|(refine xw ?_;first|(refine zq.ans (zk.idx (j:=0) zx rfl rfl rfl rfl rfl hgs rfl rfl) ?_))|(refine zy 7 ?_;first|(refine zq.ans (zk.ze rfl rfl rfl (AA) (JA _)) ?_)))|(refine zH ?_;first|(refine WL.seq ?_)|(refine WL.region (by kernel_rfl) ?_)|(refine WL.block ?_)|(refine WL.skip ?_)|(refine WL.ret ?_)|(refine zu ?_;first|(refine WL.zJ rfl ?_ ?_;(focus (first|(simp <;> omega))))))|(refine zw ?_)|(refine zZ ?_)|(refine zB ?_)|(refine qH ?_)|(refine zh.r2 (r := .tmp 6) (r' := .tmp 7) (.inl rfl) (zn.tmp rfl) (zn.tmp rfl) ?_)|(refine zX.mk ?_)
         rfl
       · have hll:l.length≤4194304:=by
           have q1:=Yg hty
           have q2:=PL.vV p
           have q3:p.items.length≤p.parts.length:=by simp only [qZ.parts,List.length_append];omega
           have q4:=PE.jB (e:=e) (p:=p) (by rw [h2];simp)
           omega
         have hT:∀ id t,VCalls Tryz.prog 60 [e.v,.sl id (ts.map iV),ints l] t (fun v t'=>v=eU (bg e ts l)∧t'=t):=fun id t=>VCalls.forget (by
           rw [show List.map V.forget [e.v,.sl id (ts.map iV),ints l]=[e.v,ints ts,ints l] by simp [V.forget,V.xL,ints,hpe,Function.comp_def]]
           exact dB e ts l (by omega) hll k3 k4 t)
         have er:resT env e.kind e.op e.value e.up e.pos ts [l]=bg e ts l:=by
           rcases LD with hk | hk
           · have:l.length=1:=by
               by_cases q:l.length=1
               · exact q
               · exact absurd ⟨hk,q⟩ hl1
             simp [resT,bg,hk,this]
           · simp [resT,bg,hk]
         rw [er]
         generalize bg e ts l=o at hT ⊢
         have LG:e.kind=8→(l.length:Int)=1:=fun hk=>by
           by_cases q:l.length=1
           · omega
           · exact absurd ⟨hk,q⟩ hl1
         repeat' first|(refine zf ?_;first|(refine zq.nil ?_)|(refine zq.ev zx rfl ?_)|(refine zo ?_;first|(refine zq.ans (zk.zm zx rfl rfl rfl rfl) ?_))|(refine qx ?_;first|(refine zq.ans (zk.z8 zx rfl rfl rfl) ?_)))|(refine zH ?_;first|(refine WL.seq ?_)|(refine WL.region (by kernel_rfl) ?_)|(refine WL.block ?_)|(refine WL.exit ?_)|(refine zu ?_;first|(refine WL.zY rfl ?_ ?_;(focus (first|(simp <;> omega))))))|(refine zw ?_)|(refine zC ?_)|(refine zV ?_)|(refine zL ?_)
         refine WL.xK (fun i:Nat=>1 - i) (fun i=>[(1,jH env),(3,.ptr (s.next+0) 0),(5,.ptr (s.next+1) 0),(8,.sl (s.next+2) (ts.map iV)),(9,(match i with | 0=>V.jo | _+1=>ints l)),(83,.sl 0 (e.sub.map PE.xu)),(84,.int .i64 e.sub.length),(85,.int .i64 (i:Int))]) (fun i=>[.var [.sl 0 (c.tables.map Tab.zF)],.var e.v.cells,.fam ts.length 1]) (fun i=>i≤1) 3 0 (by omega) (fun _=>rfl) ⟨rfl,rfl,rfl,rfl,rfl,rfl,rfl,rfl,trivial⟩ rfl (fun i hi=>?_) (fun i hi=>?_)
         · have hi2 : i = 0 ∨ i = 1 := by omega
           rcases hi2 with rfl | rfl <;> simp [qF,qG,Own.under,V.under,V.zO,PE.v,V.cells,jH,ints]
         have hi2:i=0∨i=1:=by omega
         rcases hi2 with rfl | rfl
         · dsimp only
           rcases LD with hk | hk
           · have LG := LG hk
             repeat' first|(refine zf ?_;first|(refine zq.nil ?_)|(refine kG ?_;first|(refine zq.gT rfl rfl rfl ?_)|(refine zq.gD true rfl rfl rfl ?_ ?_;(focus (first|(exact decide_eq_true (by assumption))))))|(refine zU ?_;refine zq.qD zx rfl rfl rfl rfl rfl rfl rfl rfl rfl ?_)|(refine zq.ev zx rfl ?_)|(refine qj ?_;refine zq.alloc zx rfl rfl rfl rfl ?_)|(refine zo ?_;first|(refine zq.ans (zk.zm zx rfl rfl rfl rfl) ?_))|(refine qx ?_;first|(refine zq.ans (zk.z8 zx rfl rfl rfl) ?_))|(refine xk ?_;first|(refine zq.ans (zk.add rfl rfl ?_) ?_;(focus (constructor <;> omega))))|(refine xw ?_;first|(refine zq.ans (zk.idx (j:=0) zx rfl rfl rfl rfl rfl hgs rfl rfl) ?_))|(refine zy 7 ?_;first|(refine zq.ans (zk.ze rfl rfl rfl (AA) (JA _)) ?_)))|(refine zH ?_;first|(refine WL.seq ?_)|(refine WL.region (by kernel_rfl) ?_)|(refine WL.block ?_)|(refine WL.skip ?_)|(refine zu ?_;first|(refine WL.zJ rfl ?_ ?_;(focus (first|(simp <;> omega))))|(refine WL.zY rfl ?_ ?_;(focus (first|(simp <;> omega))))))|(refine zw ?_)|(refine zQ ?_)
             refine qB.of 1 (by omega) (by omega) ?_ rfl
             repeat' first | exact qz.nil |(refine qz.mk rfl ?_ ?_) | rfl |(simp <;> fail)|(simp;omega)
           · have RL : ¬ e.kind = 8 := by omega
             repeat' first|(refine zf ?_;first|(refine zq.nil ?_)|(refine kG ?_;first|(refine zq.gT rfl rfl rfl ?_)|(refine zq.gF rfl rfl rfl ?_)|(refine zq.gD false rfl rfl rfl ?_ ?_;(focus (first|(exact decide_eq_false (by assumption))))))|(refine zU ?_;refine zq.qD zx rfl rfl rfl rfl rfl rfl rfl rfl rfl ?_)|(refine zq.ev zx rfl ?_)|(refine qj ?_;refine zq.alloc zx rfl rfl rfl rfl ?_)|(refine zo ?_;first|(refine zq.ans (zk.zm zx rfl rfl rfl rfl) ?_))|(refine xk ?_;first|(refine zq.ans (zk.add rfl rfl ?_) ?_;(focus (constructor <;> omega))))|(refine xw ?_;first|(refine zq.ans (zk.idx (j:=0) zx rfl rfl rfl rfl rfl hgs rfl rfl) ?_))|(refine zy 7 ?_;first|(refine zq.ans (zk.ze rfl rfl rfl (AA) (JA _)) ?_)))|(refine zH ?_;first|(refine WL.seq ?_)|(refine WL.region (by kernel_rfl) ?_)|(refine WL.block ?_)|(refine WL.skip ?_)|(refine zu ?_;first|(refine WL.qQ rfl ?_)|(refine WL.zJ rfl ?_ ?_;(focus (first|(simp <;> omega))))))|(refine zw ?_)|(refine zQ ?_)
             refine qB.of 1 (by omega) (by omega) ?_ rfl
             repeat' first | exact qz.nil |(refine qz.mk rfl ?_ ?_) | rfl |(simp <;> fail)|(simp;omega)
         · dsimp only
           cases o
           all_goals
             repeat' first|(refine zf ?_;first|(refine zq.nil ?_)|(refine zq.ev zx rfl ?_)|(refine zo ?_;first|(refine zq.ans (zk.zm zx rfl rfl rfl rfl) ?_))|(refine zy 60 ?_;first|(refine zq.ans (zk.ze rfl rfl rfl (Hy) (hT _ _)) ?_)))|(refine zH ?_;first|(refine WL.seq ?_)|(refine WL.region (by kernel_rfl) ?_)|(refine WL.exit ?_)|(refine WL.ret ?_)|(refine zu ?_;first|(refine WL.zY rfl ?_ ?_;(focus (first|(simp <;> omega))))))|(refine zw ?_)|(refine zC ?_)|(refine zV ?_)|(refine zL ?_)|(refine zh.r2 (r := .tmp 6) (r' := .tmp 7) (.inl rfl) (zn.tmp rfl) (zn.tmp rfl) ?_)|(refine zX.mk ?_)
             rfl
end Go.Proofs.YtolhegocbkckdaaGreat
