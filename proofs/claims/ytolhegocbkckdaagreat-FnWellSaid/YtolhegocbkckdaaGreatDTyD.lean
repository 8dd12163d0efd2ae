/-
 The types of plans' trees, of the reference. Own work; no condition.
-/
import Derived.Test.YtolhegocbkckdaaGreatDTyC
namespace Go.Proofs.YtolhegocbkckdaaGreat
open Go
set_option linter.unusedSimpArgs false
set_option linter.unusedVariables false
theorem Ky (op a:Int):eU (Js (Qd op a))=bP (Qd op a):=by
 unfold Qd
 repeat' split
 all_goals rfl
theorem ZG (op a b:Int):eU (Js (bH op a b))=bP (bH op a b):=by
 unfold bH
 split <;> rfl
theorem oW (o:Option Int):eU (o.map fun _=>3)=bP (if o.isSome then 3 else 0,o.isSome):=by cases o <;> rfl
theorem VR (r:Int × Bool):(bP r).forget=bP r:=by simp [bP,V.forget,V.qE]
theorem DZ (o:Option Int):(eU o).forget=eU o:=VR _
theorem ah (c:jy) (env:List (List Int)):PE.X9 c env []=some []:=by simp only [PE.X9]
theorem Ku (c:jy) (env:List (List Int)) (p:PL):PE.X9 c env [p]=(PE.ZA c env p).map fun l=>[l]:=by
 simp only [PE.X9]
 cases PE.ZA c env p <;> rfl
theorem ZH {env:List (List Int)} {up pos:Int} (h:jw up 0 ((env.length:Int) - 1)=false):gN env up pos=none:=by
 simp only [jw,Bool.and_eq_false_iff,decide_eq_false_iff_not] at h
 unfold gN
 split
 · rw [List.getElem?_eq_none (by omega)];rfl
 · rfl
theorem Q8 {env:List (List Int)} {n:Nat} {pos:Int} (hn:n<env.length) (h:jw pos 0 ((env[n].length:Int) - 1)=false):gN env n pos=none:=by
 simp only [jw,Bool.and_eq_false_iff,decide_eq_false_iff_not] at h
 unfold gN
 split
 · rw [Int.toNat_natCast,List.getElem?_eq_getElem hn,Option.bind_some,List.getElem?_eq_none (by omega)]
 · rfl
theorem Q9 {env:List (List Int)} {n m:Nat} (hn:n<env.length) (hm:m<env[n].length):gN env n m=some env[n][m]:=by
 unfold gN
 rw [if_pos ⟨by omega,by omega⟩,Int.toNat_natCast,Int.toNat_natCast,List.getElem?_eq_getElem hn,Option.bind_some,List.getElem?_eq_getElem hm]
set_option maxHeartbeats 8000000 in
theorem Ka (c:jy) (hc:c.wt≤1048576) (e:PE):qV e.v≤1048576→FK Tryz.prog 65 c e:=by
 induction e using PE.ind with
 | h e ih1 ih2 =>
   intro hw env hb hr s
   have e1:=PE.wG e
   have e2:=gW e.kids
   have hkl:=xW PE.zF e.kids
   have hsl:=xW PE.xu e.sub
   have hE0:∀ k∈e.kids,∀ s,VCalls Tryz.prog 65 [c.zF,jH env,k.v] s (fun v s'=>v=eU (k.ty c env)∧s'=s):=fun k hk=>ih1 k hk (Nat.le_trans (PE.vD hk) hw) env (by have:=PE.vD hk;omega) hr
   have MV:∀ p∈e.sub,∀ s,VCalls Tryz.prog 24 [c.zF,jH env,p.v] s (fun v s'=>v=iw (PE.ZA c env p)∧s'=s):=fun p hp=>fV c p hc (Nat.le_trans (PE.jB hp) hw) (fun k hk=>ih2 p hp k hk (Nat.le_trans (PL.jq hk) (Nat.le_trans (PE.jB hp) hw))) env (by have:=PE.jB hp;omega) hr
   have hS:=fun t=>ZE e (by omega) (by omega) t
   clear ih1 ih2
   rw [PE.Ai]
   cases hsh:e.shape <;> rw [hsh] at hS
   · simp only [Bool.false_eq_true, if_false]
     refine zi.pure Tryz.func65 rfl (by kernel_rfl) (by simp) ?_
     repeat' first|(refine zf ?_;first|(refine zq.nil ?_)|(refine zq.ev zx rfl ?_)|(refine qW ?_;refine zq.box rfl rfl rfl rfl ?_)|(refine zo ?_;first|(refine zq.ans (zk.zm zx rfl rfl rfl rfl) ?_))|(refine zy 96 ?_;first|(refine zq.ans (zk.ze rfl rfl rfl (Ht) (hS _)) ?_)))|(refine zH ?_;first|(refine WL.seq ?_)|(refine WL.region (by kernel_rfl) ?_)|(refine WL.ret ?_)|(refine zu ?_;first|(refine WL.qb rfl ?_)))|(refine zw ?_)|(refine zZ ?_)|(refine zh.r2 (r := .tmp 6) (r' := .tmp 7) (.inl rfl) (zn.tmp rfl) (zn.tmp rfl) ?_)|(refine zX.mk ?_)
     rfl
   simp only [if_true]
   have hf:=rA hsh
   refine zi.pure Tryz.func65 rfl (by kernel_rfl) (by simp) ?_
   repeat' first|(refine zf ?_;first|(refine zq.nil ?_)|(refine zq.ev zx rfl ?_)|(refine qW ?_;refine zq.box rfl rfl rfl rfl ?_)|(refine kZ ?_;first|(refine zq.uT zx rfl rfl rfl rfl rfl ?_))|(refine zo ?_;first|(refine zq.ans (zk.zm zx rfl rfl rfl rfl) ?_))|(refine zy 96 ?_;first|(refine zq.ans (zk.ze rfl rfl rfl (Ht) (hS _)) ?_)))|(refine zH ?_;first|(refine WL.seq ?_)|(refine WL.region (by kernel_rfl) ?_)|(refine WL.block ?_)|(refine WL.skip ?_)|(refine zu ?_;first|(refine WL.qQ rfl ?_)))|(refine zw ?_)
   refine WL.mV (t:=8) 1 rfl rfl rfl rfl ?_
   refine WL.xK (fun x:Nat × List Int=>e.kids.length - x.1) (fun x=>[(1,jH env),(3,.ptr (s.next+0) 0),(5,.ptr (s.next+1) 0),(8,.sl (s.next+2) (x.2.map iV)),(9,.int .i64 (x.1:Int))]) (fun x=>[.var [.sl 0 (c.tables.map Tab.zF)],.var e.v.cells,.fam x.2.length 1])
     (fun x=>x.1≤e.kids.length∧PE.fE c env (e.kids.take x.1)=some x.2) 3 (0,[]) ⟨by simp,by simp [PE.fE]⟩ (fun _=>rfl) ⟨rfl,rfl,rfl,rfl,rfl,trivial⟩ rfl (fun i hi=>?_) (fun i hi=>?_)
   · simp [qF,qG,Own.under,V.under,V.zO,PE.v,V.cells,jH]
   obtain ⟨i,ts⟩:=i
   obtain ⟨hi,ht⟩:=hi
   try dsimp only at hi ht ⊢
   have htl:=PE.iE c env ht
   rw [List.length_take] at htl
   rcases Nat.lt_or_ge i e.kids.length with hlt | hge
   · have hga : (e.kids.map PE.zF)[i]? = some (PE.v e.kids[i]) := by rw [List.getElem?_map, List.getElem?_eq_getElem hlt]; simp only [Option.map_some, PE.qK]
     have hE:=hE0 _ (List.getElem_mem hlt)
     have hn:=fun h=>PE.uf hlt ht h
     have hs:=fun t h=>PE.ug (t:=t) hlt ht h
     generalize e.kids[i]=x at hga hE hn hs
     cases ho:PE.ty c env x with
     | none =>
       rw [ho] at hE
       rw [hn ho]
       repeat' first|(refine zf ?_;first|(refine zq.nil ?_)|(refine zq.ev zx rfl ?_)|(refine zo ?_;first|(refine zq.ans (zk.zm zx rfl rfl rfl rfl) ?_))|(refine qx ?_;first|(refine zq.ans (zk.z8 zx rfl rfl rfl) ?_)))|(refine zH ?_;first|(refine WL.seq ?_)|(refine WL.region (by kernel_rfl) ?_)|(refine WL.drawn (id:=7) [0,1,2,3,4,5,6,7,8,9,10,11,12] [] [[],[],[],[2],[],[2,3,4],[2,3,4,5],[0,1,2,3,4,5,6],[0,1,2,3,4,5,6,7],[0,1,2,3,4,5,6,7,8],[0,1,2,3,4,5,6,7,8],[0,1,2,3,4,5,6,7,8,9],[0,1,2,3,4,5,6,7,8,9,10,11]] (by kernel_rfl) (by kernel_rfl) ?_)|(refine WL.block ?_)|(refine WL.skip ?_)|(refine WL.ret ?_)|(refine zu ?_;first|(refine WL.qb rfl ?_)|(refine WL.zJ rfl ?_ ?_;(focus (first|(simp <;> omega))))))|(refine vN ?_;first|(refine zA.nil ?_)|(refine zA.fl rfl rfl (.ev zx rfl) ?_)|(refine qo rfl ?_;first|(refine zA.fl rfl rfl (zk.zm zx rfl rfl rfl rfl) ?_))|(refine kQ rfl ?_;first|(refine zA.fl rfl rfl (zk.idx zx rfl rfl rfl rfl rfl hga rfl rfl) ?_))|(refine qX 65 rfl ?_;first|(refine zA.fl rfl rfl (zk.ze rfl rfl rfl (XD) (hE _)) ?_)))|(refine zw ?_)|(refine zZ ?_)|(refine zB ?_)|(refine qH ?_)|(refine zh.r2 (r := .tmp 6) (r' := .tmp 7) (.inl rfl) (zn.tmp rfl) (zn.tmp rfl) ?_)|(refine zX.mk ?_)
       rfl
     | some t =>
       rw [ho] at hE
       have hs:=hs t ho
       repeat' first|(refine zf ?_;first|(refine zq.nil ?_)|(refine zq.ev zx rfl ?_)|(refine kZ ?_;first|(refine zq.Kl zx rfl rfl rfl rfl rfl rfl rfl rfl rfl rfl rfl ?_))|(refine ji ?_;first|(refine zq.app zx rfl rfl rfl rfl rfl rfl rfl rfl rfl rfl rfl ?_ ?_ (xU.of ?_ rfl) ?_;(focus (first | rfl |(simp <;> fail)));(focus (first | exact zS.of rfl | exact zS.map fun _=>rfl | exact PE.els _ (fun _=>rfl) _));(focus (first | omega |(simp;omega)))))|(refine zo ?_;first|(refine zq.ans (zk.zm zx rfl rfl rfl rfl) ?_))|(refine qx ?_;first|(refine zq.ans (zk.z8 zx rfl rfl rfl) ?_))|(refine xk ?_;first|(refine zq.ans (zk.add rfl rfl ?_) ?_;(focus (constructor <;> omega)))))|(refine zH ?_;first|(refine WL.seq ?_)|(refine WL.region (by kernel_rfl) ?_)|(refine WL.drawn (id:=7) [0,1,2,3,4,5,6,7,8,9,10,11,12] [] [[],[],[],[2],[],[2,3,4],[2,3,4,5],[0,1,2,3,4,5,6],[0,1,2,3,4,5,6,7],[0,1,2,3,4,5,6,7,8],[0,1,2,3,4,5,6,7,8],[0,1,2,3,4,5,6,7,8,9],[0,1,2,3,4,5,6,7,8,9,10,11]] (by kernel_rfl) (by kernel_rfl) ?_)|(refine WL.block ?_)|(refine WL.skip ?_)|(refine zu ?_;first|(refine WL.qQ rfl ?_)|(refine WL.zJ rfl ?_ ?_;(focus (first|(simp <;> omega))))))|(refine vN ?_;first|(refine zA.nil ?_)|(refine zA.fl rfl rfl (.ev zx rfl) ?_)|(refine qo rfl ?_;first|(refine zA.fl rfl rfl (zk.zm zx rfl rfl rfl rfl) ?_))|(refine kQ rfl ?_;first|(refine zA.fl rfl rfl (zk.idx zx rfl rfl rfl rfl rfl hga rfl rfl) ?_))|(refine qX 65 rfl ?_;first|(refine zA.fl rfl rfl (zk.ze rfl rfl rfl (XD) (hE _)) ?_)))|(refine zw ?_)|(refine zQ ?_)
       refine qB.of (i+1,ts++[t]) ⟨hlt,hs⟩ (by show e.kids.length - (i+1)<e.kids.length - i;omega) ?_ ?_
       · rw [List.map_append]
         repeat' first | exact qz.nil |(refine qz.mk rfl ?_ ?_) | rfl |(simp <;> fail)|(simp;omega)
       · simp [PE.v,V.cells]
   rw [List.take_of_length_le hge] at ht
   rw [Nat.min_eq_right (by omega)] at htl
   rw [ht]
   dsimp only
   clear hE0
   have hM:∀ id t,VCalls Tryz.prog 100 [.sl id (ts.map iV)] t (fun v t'=>v = .bool (vW 0 ts).isSome∧t'=t):=fun id t=>VCalls.forget (by
     rw [show List.map V.forget [V.sl id (ts.map iV)]=[ints ts] by simp [V.forget,V.xL,ints]]
     exact lC ts (by omega) t)
   rcases hf with ⟨hk,h1,h2⟩ | ⟨hk,h1,h2⟩ | ⟨hk,⟨a,h1⟩,h2⟩ | ⟨hk,⟨a,b,h1⟩,h2⟩ | ⟨hk,h2⟩ | ⟨hk,h2⟩ | ⟨hk,h2⟩ | ⟨hk,p,h2⟩ | ⟨hk,h1,p,h2⟩
   · have e3 : PE.X9 c env e.sub = some [] := by rw [h2, ah]
     rw [e3]
     simp only [resT,hk,if_true]
     repeat' first|(refine zf ?_;first|(refine zq.nil ?_)|(refine zq.ev zx rfl ?_)|(refine zo ?_;first|(refine zq.ans (zk.zm zx rfl rfl rfl rfl) ?_))|(refine qx ?_;first|(refine zq.ans (zk.z8 zx rfl rfl rfl) ?_)))|(refine zH ?_;first|(refine WL.seq ?_)|(refine WL.region (by kernel_rfl) ?_)|(refine WL.block ?_)|(refine WL.exit ?_)|(refine WL.ret ?_)|(refine zu ?_;first|(refine WL.zJ rfl ?_ ?_;(focus (first|(exact decide_eq_true (by assumption)))))|(refine WL.zY rfl ?_ ?_;(focus (first|(simp <;> omega))))))|(refine zw ?_)|(refine zZ ?_)|(refine zC ?_)|(refine zB ?_)|(refine zV ?_)|(refine zL ?_)|(refine zh.r2 (r := .tmp 6) (r' := .tmp 7) (.inl rfl) (zn.tmp rfl) (zn.tmp rfl) ?_)|(refine zX.mk ?_)
     rfl
   · have e3 : PE.X9 c env e.sub = some [] := by rw [h2, ah]
     rw [e3]
     have hk1:¬ e.kind=1:=by omega
     simp only [resT,hk1,hk,if_true,if_false]
     have hI1:=fun t=>q9 e.up 0 ((env.length:Int) - 1) t
     cases hin:jw e.up 0 ((env.length:Int) - 1) <;> rw [hin] at hI1
     · rw [ZH hin]
       repeat' first|(refine zf ?_;first|(refine zq.nil ?_)|(refine zq.ev zx rfl ?_)|(refine zo ?_;first|(refine zq.ans (zk.zm zx rfl rfl rfl rfl) ?_))|(refine qx ?_;first|(refine zq.ans (zk.z8 zx rfl rfl rfl) ?_)))|(refine zH ?_;first|(refine WL.seq ?_)|(refine WL.region (by kernel_rfl) ?_)|(refine WL.drawn (id:=15) [0,1,2,3,4,5,6,7,8,9,10,11,12,13,14,15,16,17,18,19] [] [[],[0],[],[2],[2,3],[0,1,2,3,4],[0,1,2,3,4,5],[0,1,2,3,4,5,6],[0,1,2,3,4,5,6,7],[0,1,2,3,4,5,6,7,8],[0,1,2,3,4,5,6,7],[0,1,2,3,4,5,6,7],[0,1,2,3,4,5,6,7,11],[0,1,2,3,4,5,6,7,10,11,12],[0,1,2,3,4,5,6,7,10,11,12,13],[0,1,2,3,4,5,6,7,10,11,12,13,14],[0,1,2,3,4,5,6,7,10,11,12,13,14,15],[0,1,2,3,4,5,6,7,8,9,10,11,12,13,14,15,16],[0,1,2,3,4,5,6,7,8,9,10,11,12,13,14,15,16,17],[0,1,2,3,4,5,6,7,8,9,10,11,12,13,14,15,16,17,18]] (by kernel_rfl) (by kernel_rfl) ?_)|(refine WL.block ?_)|(refine WL.exit ?_)|(refine WL.ret ?_)|(refine zu ?_;first|(refine WL.qb rfl ?_)|(refine WL.zJ rfl ?_ ?_;(focus (first|(exact decide_eq_true (by assumption)))))|(refine WL.zY rfl ?_ ?_;(focus (first|(exact decide_eq_false (by assumption))|(simp <;> omega))))))|(refine vN ?_;first|(refine zA.nil ?_)|(refine zA.fl rfl rfl (.ev zx rfl) ?_)|(refine zA.gF rfl rfl rfl rfl rfl ?_)|(refine qo rfl ?_;first|(refine zA.fl rfl rfl (zk.zm zx rfl rfl rfl rfl) ?_))|(refine uM rfl ?_;first|(refine zA.fl rfl rfl (zk.z8 zx rfl rfl rfl) ?_))|(refine yj rfl ?_;first|(refine zA.fl rfl rfl (zk.sub rfl rfl ?_) ?_;(focus (constructor <;> omega))))|(refine qX 27 rfl ?_;first|(refine zA.fl rfl rfl (zk.ze rfl rfl rfl (jO) (hI1 _)) ?_)))|(refine zw ?_)|(refine zZ ?_)|(refine zC ?_)|(refine zB ?_)|(refine zV ?_)|(refine zL ?_)|(refine zh.r2 (r := .tmp 6) (r' := .tmp 7) (.inl rfl) (zn.tmp rfl) (zn.tmp rfl) ?_)|(refine zX.mk ?_)
       rfl
     simp only [jw,Bool.and_eq_true,decide_eq_true_eq] at hin
     obtain ⟨n,hn⟩:∃ n:Nat,e.up=(n:Int):=⟨e.up.toNat,by omega⟩
     have hnl:n<env.length:=by omega
     have hrl:=hr _ (List.getElem_mem hnl)
     have hgu:(env.map ints)[n]?=some (ints env[n]):=by simp [hnl]
     have hI2:=fun t=>q9 e.pos 0 ((env[n].length:Int) - 1) t
     have hcn:=fun h=>Q8 (pos:=e.pos) hnl h
     have hcy:=fun m h=>Q9 (m:=m) hnl h
     rw [hn]
     generalize env[n]=row at hrl hgu hI2 hcn hcy
     cases hin2:jw e.pos 0 ((row.length:Int) - 1) <;> rw [hin2] at hI2
     · rw [hcn hin2]
       repeat' first|(refine zf ?_;first|(refine zq.nil ?_)|(refine zq.ev zx rfl ?_)|(refine zo ?_;first|(refine zq.ans (zk.zm zx rfl rfl rfl rfl) ?_))|(refine qx ?_;first|(refine zq.ans (zk.z8 zx rfl rfl rfl) ?_)))|(refine zH ?_;first|(refine WL.seq ?_)|(refine WL.region (by kernel_rfl) ?_)|(refine WL.drawn (id:=15) [0,1,2,3,4,5,6,7,8,9,10,11,12,13,14,15,16,17,18,19] [] [[],[0],[],[2],[2,3],[0,1,2,3,4],[0,1,2,3,4,5],[0,1,2,3,4,5,6],[0,1,2,3,4,5,6,7],[0,1,2,3,4,5,6,7,8],[0,1,2,3,4,5,6,7],[0,1,2,3,4,5,6,7],[0,1,2,3,4,5,6,7,11],[0,1,2,3,4,5,6,7,10,11,12],[0,1,2,3,4,5,6,7,10,11,12,13],[0,1,2,3,4,5,6,7,10,11,12,13,14],[0,1,2,3,4,5,6,7,10,11,12,13,14,15],[0,1,2,3,4,5,6,7,8,9,10,11,12,13,14,15,16],[0,1,2,3,4,5,6,7,8,9,10,11,12,13,14,15,16,17],[0,1,2,3,4,5,6,7,8,9,10,11,12,13,14,15,16,17,18]] (by kernel_rfl) (by kernel_rfl) ?_)|(refine WL.block ?_)|(refine WL.exit ?_)|(refine WL.ret ?_)|(refine zu ?_;first|(refine WL.qb rfl ?_)|(refine WL.zJ rfl ?_ ?_;(focus (first|(exact decide_eq_true (by assumption)))))|(refine WL.zY rfl ?_ ?_;(focus (first|(exact decide_eq_false (by assumption))|(simp <;> omega))))))|(refine vN ?_;first|(refine zA.nil ?_)|(refine zA.fl rfl rfl (.ev zx rfl) ?_)|(refine zA.gT rfl rfl rfl rfl rfl (.ev zx rfl) ?_)|(refine qo rfl ?_;first|(refine zA.fl rfl rfl (zk.zm zx rfl rfl rfl rfl) ?_)|(refine zA.gT rfl rfl rfl rfl rfl (zk.zm zx rfl rfl rfl rfl) ?_))|(refine uM rfl ?_;first|(refine zA.fl rfl rfl (zk.z8 zx rfl rfl rfl) ?_)|(refine zA.gT rfl rfl rfl rfl rfl (zk.z8 zx rfl rfl rfl) ?_))|(refine yj rfl ?_;first|(refine zA.fl rfl rfl (zk.sub rfl rfl ?_) ?_;(focus (constructor <;> omega)))|(refine zA.gT rfl rfl rfl rfl rfl (zk.sub rfl rfl ?_) ?_;(focus (constructor <;> omega))))|(refine kQ rfl ?_;first|(refine zA.gT rfl rfl rfl rfl rfl (zk.idx (j:=n) zx rfl (congrArg (fun z=>some (V.int .i64 z)) hn) rfl rfl rfl hgu rfl rfl) ?_))|(refine qX 27 rfl ?_;first|(refine zA.fl rfl rfl (zk.ze rfl rfl rfl (jO) (hI1 _)) ?_)|(refine zA.gT rfl rfl rfl rfl rfl (zk.ze rfl rfl rfl (jO) (hI2 _)) ?_)))|(refine zw ?_)|(refine zZ ?_)|(refine zC ?_)|(refine zB ?_)|(refine zV ?_)|(refine zL ?_)|(refine zh.r2 (r := .tmp 6) (r' := .tmp 7) (.inl rfl) (zn.tmp rfl) (zn.tmp rfl) ?_)|(refine zX.mk ?_)
       rfl
     simp only [jw,Bool.and_eq_true,decide_eq_true_eq] at hin2
     obtain ⟨m,hm⟩:∃ m:Nat,e.pos=(m:Int):=⟨e.pos.toNat,by omega⟩
     have hml:m<row.length:=by omega
     have hgv:(row.map iV)[m]?=some (iV row[m]):=by simp [hml]
     rw [hm,hcy m hml]
     repeat' first|(refine zf ?_;first|(refine zq.nil ?_)|(refine zq.ev zx rfl ?_)|(refine zo ?_;first|(refine zq.ans (zk.zm zx rfl rfl rfl rfl) ?_))|(refine qx ?_;first|(refine zq.ans (zk.z8 zx rfl rfl rfl) ?_)))|(refine zH ?_;first|(refine WL.seq ?_)|(refine WL.region (by kernel_rfl) ?_)|(refine WL.drawn (id:=15) [0,1,2,3,4,5,6,7,8,9,10,11,12,13,14,15,16,17,18,19] [] [[],[0],[],[2],[2,3],[0,1,2,3,4],[0,1,2,3,4,5],[0,1,2,3,4,5,6],[0,1,2,3,4,5,6,7],[0,1,2,3,4,5,6,7,8],[0,1,2,3,4,5,6,7],[0,1,2,3,4,5,6,7],[0,1,2,3,4,5,6,7,11],[0,1,2,3,4,5,6,7,10,11,12],[0,1,2,3,4,5,6,7,10,11,12,13],[0,1,2,3,4,5,6,7,10,11,12,13,14],[0,1,2,3,4,5,6,7,10,11,12,13,14,15],[0,1,2,3,4,5,6,7,8,9,10,11,12,13,14,15,16],[0,1,2,3,4,5,6,7,8,9,10,11,12,13,14,15,16,17],[0,1,2,3,4,5,6,7,8,9,10,11,12,13,14,15,16,17,18]] (by kernel_rfl) (by kernel_rfl) ?_)|(refine WL.drawn (id:=17) [0,1,2,3,4,5,6,7,8,9,10] [] [[],[],[1],[0,1,2],[0,1,2,3],[],[5],[0,1,2,3,4,5,6],[0,1,2,3,4,5,6,7],[0,1,2,3,4,5,6,7,8],[0,1,2,3,4,5,6,7,8,9]] (by kernel_rfl) (by kernel_rfl) ?_)|(refine WL.block ?_)|(refine WL.exit ?_)|(refine WL.skip ?_)|(refine WL.ret ?_)|(refine zu ?_;first|(refine WL.qQ rfl ?_)|(refine WL.zJ rfl ?_ ?_;(focus (first|(exact decide_eq_true (by assumption)))))|(refine WL.zY rfl ?_ ?_;(focus (first|(exact decide_eq_false (by assumption))|(simp <;> omega))))))|(refine vN ?_;first|(refine zA.nil ?_)|(refine zA.fl rfl rfl (.ev zx rfl) ?_)|(refine zA.gT rfl rfl rfl rfl rfl (.ev zx rfl) ?_)|(refine qo rfl ?_;first|(refine zA.fl rfl rfl (zk.zm zx rfl rfl rfl rfl) ?_)|(refine zA.gT rfl rfl rfl rfl rfl (zk.zm zx rfl rfl rfl rfl) ?_))|(refine uM rfl ?_;first|(refine zA.fl rfl rfl (zk.z8 zx rfl rfl rfl) ?_)|(refine zA.gT rfl rfl rfl rfl rfl (zk.z8 zx rfl rfl rfl) ?_))|(refine yj rfl ?_;first|(refine zA.fl rfl rfl (zk.sub rfl rfl ?_) ?_;(focus (constructor <;> omega)))|(refine zA.gT rfl rfl rfl rfl rfl (zk.sub rfl rfl ?_) ?_;(focus (constructor <;> omega))))|(refine kQ rfl ?_;first|(refine zA.fl rfl rfl (zk.idx (j:=n) zx rfl (congrArg (fun z=>some (V.int .i64 z)) hn) rfl rfl rfl hgu rfl rfl) ?_)|(refine zA.gT rfl rfl rfl rfl rfl (zk.idx (j:=n) zx rfl (congrArg (fun z=>some (V.int .i64 z)) hn) rfl rfl rfl hgu rfl rfl) ?_)|(refine zA.fl rfl rfl (zk.idx (j:=m) zx rfl (congrArg (fun z=>some (V.int .i64 z)) hm) rfl rfl rfl hgv rfl rfl) ?_))|(refine qX 27 rfl ?_;first|(refine zA.fl rfl rfl (zk.ze rfl rfl rfl (jO) (hI1 _)) ?_)|(refine zA.gT rfl rfl rfl rfl rfl (zk.ze rfl rfl rfl (jO) (hI2 _)) ?_)))|(refine zw ?_)|(refine zZ ?_)|(refine zC ?_)|(refine zB ?_)|(refine zV ?_)|(refine zL ?_)|(refine zh.r2 (r := .tmp 6) (r' := .tmp 7) (.inl rfl) (zn.tmp rfl) (zn.tmp rfl) ?_)|(refine zX.mk ?_)
     rfl
   · have e3 : PE.X9 c env e.sub = some [] := by rw [h2, ah]
     rw [e3]
     have hk1:¬ e.kind=1:=by omega
     have hk2:¬ e.kind=2:=by omega
     rw [h1] at htl
     obtain ⟨x,rfl⟩:=List.length_eq_one_iff.1 htl
     simp only [resT,hk1,hk2,hk,if_true,if_false,List.headD_cons,Ky]
     have hU:=fun t=>X8 e.op x t
     have hg:([x].map iV)[0]?=some (iV x):=rfl
     repeat' first|(refine zf ?_;first|(refine zq.nil ?_)|(refine zq.ev zx rfl ?_)|(refine zo ?_;first|(refine zq.ans (zk.zm zx rfl rfl rfl rfl) ?_))|(refine qx ?_;first|(refine zq.ans (zk.z8 zx rfl rfl rfl) ?_)))|(refine zH ?_;first|(refine WL.seq ?_)|(refine WL.region (by kernel_rfl) ?_)|(refine WL.drawn (id:=19) [0,1,2,3,4,5,6,7,8,9] [] [[],[0],[],[2],[2,3],[0,1,2,3,4],[0,1,2,3,4,5],[0,1,2,3,4,5],[0,1,2,3,4,5,6,7],[0,1,2,3,4,5,6,7,8]] (by kernel_rfl) (by kernel_rfl) ?_)|(refine WL.block ?_)|(refine WL.exit ?_)|(refine WL.ret ?_)|(refine zu ?_;first|(refine WL.zJ rfl ?_ ?_;(focus (first|(exact decide_eq_true (by assumption)))))|(refine WL.zY rfl ?_ ?_;(focus (first|(exact decide_eq_false (by assumption))|(simp <;> omega))))))|(refine vN ?_;first|(refine zA.nil ?_)|(refine zA.fl rfl rfl (.ev zx rfl) ?_)|(refine qo rfl ?_;first|(refine zA.fl rfl rfl (zk.zm zx rfl rfl rfl rfl) ?_))|(refine kQ rfl ?_;first|(refine zA.fl rfl rfl (zk.idx (j:=0) zx rfl rfl rfl rfl rfl hg rfl rfl) ?_))|(refine qX 97 rfl ?_;first|(refine zA.fl rfl rfl (zk.ze rfl rfl rfl (OQ) (hU _)) ?_)))|(refine zw ?_)|(refine zZ ?_)|(refine zC ?_)|(refine zB ?_)|(refine zV ?_)|(refine zL ?_)|(refine zh.r2 (r := .tmp 6) (r' := .tmp 7) (.inl rfl) (zn.tmp rfl) (zn.tmp rfl) ?_)|(refine zX.mk ?_)
     all_goals (simp [Ky,bP,V.forget,V.qE];done)
   · have e3 : PE.X9 c env e.sub = some [] := by rw [h2, ah]
     rw [e3]
     have hk1:¬ e.kind=1:=by omega
     have hk2:¬ e.kind=2:=by omega
     have hk3:¬ e.kind=3:=by omega
     rw [h1] at htl
     obtain ⟨x,y,rfl⟩:=Kw htl
     simp only [resT,hk1,hk2,hk3,hk,if_true,if_false,List.headD_cons,List.drop_one,List.tail_cons,ZG]
     have hU:=fun t=>Qf e.op x y t
     have hg:([x,y].map iV)[0]?=some (iV x):=rfl
     have hg2:([x,y].map iV)[1]?=some (iV y):=rfl
     repeat' first|(refine zf ?_;first|(refine zq.nil ?_)|(refine zq.ev zx rfl ?_)|(refine zo ?_;first|(refine zq.ans (zk.zm zx rfl rfl rfl rfl) ?_))|(refine qx ?_;first|(refine zq.ans (zk.z8 zx rfl rfl rfl) ?_)))|(refine zH ?_;first|(refine WL.seq ?_)|(refine WL.region (by kernel_rfl) ?_)|(refine WL.drawn (id:=21) [0,1,2,3,4,5,6,7,8,9,10,11,12] [] [[],[0],[],[2],[2,3],[],[5],[5,6],[0,1,2,3,4,5,6,7],[0,1,2,3,4,5,6,7,8],[0,1,2,3,4,5,6,7,8],[0,1,2,3,4,5,6,7,8,9,10],[0,1,2,3,4,5,6,7,8,9,10,11]] (by kernel_rfl) (by kernel_rfl) ?_)|(refine WL.block ?_)|(refine WL.exit ?_)|(refine WL.ret ?_)|(refine zu ?_;first|(refine WL.zJ rfl ?_ ?_;(focus (first|(exact decide_eq_true (by assumption)))))|(refine WL.zY rfl ?_ ?_;(focus (first|(exact decide_eq_false (by assumption))|(simp <;> omega))))))|(refine vN ?_;first|(refine zA.nil ?_)|(refine zA.fl rfl rfl (.ev zx rfl) ?_)|(refine qo rfl ?_;first|(refine zA.fl rfl rfl (zk.zm zx rfl rfl rfl rfl) ?_))|(refine kQ rfl ?_;first|(refine zA.fl rfl rfl (zk.idx (j:=0) zx rfl rfl rfl rfl rfl hg rfl rfl) ?_)|(refine zA.fl rfl rfl (zk.idx (j:=1) zx rfl rfl rfl rfl rfl hg2 rfl rfl) ?_))|(refine qX 98 rfl ?_;first|(refine zA.fl rfl rfl (zk.ze rfl rfl rfl (OX) (hU _)) ?_)))|(refine zw ?_)|(refine zZ ?_)|(refine zC ?_)|(refine zB ?_)|(refine zV ?_)|(refine zL ?_)|(refine zh.r2 (r := .tmp 6) (r' := .tmp 7) (.inl rfl) (zn.tmp rfl) (zn.tmp rfl) ?_)|(refine zX.mk ?_)
     all_goals (simp [ZG,bP,V.forget,V.qE];done)
   · have e3 : PE.X9 c env e.sub = some [] := by rw [h2, ah]
     rw [e3]
     try dsimp only
     have hs0:e.sub.length=0:=by rw [h2];rfl
     simp only [resT,hk]
     repeat' first|(refine zf ?_;first|(refine zq.nil ?_)|(refine zq.ev zx rfl ?_)|(refine zo ?_;first|(refine zq.ans (zk.zm zx rfl rfl rfl rfl) ?_))|(refine qx ?_;first|(refine zq.ans (zk.z8 zx rfl rfl rfl) ?_)))|(refine zH ?_;first|(refine WL.seq ?_)|(refine WL.region (by kernel_rfl) ?_)|(refine WL.block ?_)|(refine WL.exit ?_)|(refine WL.skip ?_)|(refine WL.ret ?_)|(refine zu ?_;first|(refine WL.zJ rfl ?_ ?_;(focus (first|(exact decide_eq_true (by assumption)))))|(refine WL.zY rfl ?_ ?_;(focus (first|(simp <;> omega))))))|(refine zw ?_)|(refine zZ ?_)|(refine zC ?_)|(refine zQ ?_)|(refine zV ?_)|(refine zL ?_)|(refine zh.r2 (r := .tmp 6) (r' := .tmp 7) (.inl rfl) (zn.tmp rfl) (zn.tmp rfl) ?_)|(refine zX.mk ?_)
     rfl
   · have e3 : PE.X9 c env e.sub = some [] := by rw [h2, ah]
     rw [e3]
     try dsimp only
     have hs0:e.sub.length=0:=by rw [h2];rfl
     rw [show resT env e.kind e.op e.value e.up e.pos ts []=(vW 0 ts).map fun _=>3 by simp [resT,hk],oW]
     generalize (vW 0 ts).isSome=b at hM ⊢
     cases b
     all_goals
       repeat' first|(refine zf ?_;first|(refine zq.nil ?_)|(refine zq.ev zx rfl ?_)|(refine zo ?_;first|(refine zq.ans (zk.zm zx rfl rfl rfl rfl) ?_))|(refine qx ?_;first|(refine zq.ans (zk.z8 zx rfl rfl rfl) ?_))|(refine zy 100 ?_;first|(refine zq.ans (zk.ze rfl rfl rfl (WJ) (hM _ _)) ?_))|(refine zy 99 ?_;first|(refine zq.ans (zk.ze rfl rfl rfl (XE) (j5 _ _ _)) ?_)))|(refine zH ?_;first|(refine WL.seq ?_)|(refine WL.region (by kernel_rfl) ?_)|(refine WL.block ?_)|(refine WL.exit ?_)|(refine WL.skip ?_)|(refine WL.ret ?_)|(refine zu ?_;first|(refine WL.zY rfl ?_ ?_;(focus (first|(simp <;> omega))))))|(refine zw ?_)|(refine zC ?_)|(refine zQ ?_)|(refine zV ?_)|(refine zL ?_)|(refine zh.r2 (r := .tmp 6) (r' := .tmp 7) (.inl rfl) (zn.tmp rfl) (zn.tmp rfl) ?_)|(refine zX.mk ?_)
       simp [bP,V.forget,V.qE]
   · have e3 : PE.X9 c env e.sub = some [] := by rw [h2, ah]
     rw [e3]
     try dsimp only
     have hs0:e.sub.length=0:=by rw [h2];rfl
     rw [show resT env e.kind e.op e.value e.up e.pos ts []=(vW 0 ts).map fun _=>3 by simp [resT,hk],oW]
     generalize (vW 0 ts).isSome=b at hM ⊢
     cases b
     all_goals
       repeat' first|(refine zf ?_;first|(refine zq.nil ?_)|(refine zq.ev zx rfl ?_)|(refine zo ?_;first|(refine zq.ans (zk.zm zx rfl rfl rfl rfl) ?_))|(refine qx ?_;first|(refine zq.ans (zk.z8 zx rfl rfl rfl) ?_))|(refine zy 100 ?_;first|(refine zq.ans (zk.ze rfl rfl rfl (WJ) (hM _ _)) ?_))|(refine zy 99 ?_;first|(refine zq.ans (zk.ze rfl rfl rfl (XE) (j5 _ _ _)) ?_)))|(refine zH ?_;first|(refine WL.seq ?_)|(refine WL.region (by kernel_rfl) ?_)|(refine WL.block ?_)|(refine WL.exit ?_)|(refine WL.skip ?_)|(refine WL.ret ?_)|(refine zu ?_;first|(refine WL.zY rfl ?_ ?_;(focus (first|(simp <;> omega))))))|(refine zw ?_)|(refine zC ?_)|(refine zQ ?_)|(refine zV ?_)|(refine zL ?_)|(refine zh.r2 (r := .tmp 6) (r' := .tmp 7) (.inl rfl) (zn.tmp rfl) (zn.tmp rfl) ?_)|(refine zX.mk ?_)
       simp [bP,V.forget,V.qE]
   · have JA := MV p (by rw [h2]; simp)
     have hs1:e.sub.length=1:=by rw [h2];rfl
     have hgs:(e.sub.map PE.xu)[0]?=some (PL.v p):=by rw [h2];simp [PE.kX]
     rw [h2,Ku]
     cases hty:PE.ZA c env p with
     | none =>
       rw [hty] at JA
       repeat' first|(refine zf ?_;first|(refine zq.nil ?_)|(refine kG ?_;first|(refine zq.gF rfl rfl rfl ?_)|(refine zq.gU rfl rfl ?_))|(refine zq.ev zx rfl ?_)|(refine zo ?_;first|(refine zq.ans (zk.zm zx rfl rfl rfl rfl) ?_))|(refine qx ?_;first|(refine zq.ans (zk.z8 zx rfl rfl rfl) ?_)))|(refine zH ?_;first|(refine WL.seq ?_)|(refine WL.region (by kernel_rfl) ?_)|(refine WL.drawn (id:=23) [0,1,2,3,4,5,6,7,8,9,10,11] [] [[],[],[],[2],[2,3],[2,3,4],[0,1,2,3,4,5],[0,1,2,3,4,5,6],[0,1,2,3,4,5,6,7],[0,1,2,3,4,5,6,7],[0,1,2,3,4,5,6,7,8],[0,1,2,3,4,5,6,7,8,9,10]] (by kernel_rfl) (by kernel_rfl) ?_)|(refine WL.block ?_)|(refine WL.exit ?_)|(refine WL.skip ?_)|(refine WL.ret ?_)|(refine zu ?_;first|(refine WL.qb rfl ?_)|(refine WL.zJ rfl ?_ ?_;(focus (first|(simp <;> omega))))|(refine WL.zY rfl ?_ ?_;(focus (first|(simp <;> omega))))))|(refine vN ?_;first|(refine zA.nil ?_)|(refine zA.fl rfl rfl (.ev zx rfl) ?_)|(refine qo rfl ?_;first|(refine zA.fl rfl rfl (zk.zm zx rfl rfl rfl rfl) ?_))|(refine kQ rfl ?_;first|(refine zA.fl rfl rfl (zk.idx (j:=0) zx rfl rfl rfl rfl rfl hgs rfl rfl) ?_))|(refine qX 24 rfl ?_;first|(refine zA.fl rfl rfl (zk.ze rfl rfl rfl (Y2) (JA _)) ?_)))|(refine zw ?_)|(refine zZ ?_)|(refine zC ?_)|(refine zQ ?_)|(refine zV ?_)|(refine zL ?_)|(refine zh.r2 (r := .tmp 6) (r' := .tmp 7) (.inl rfl) (zn.tmp rfl) (zn.tmp rfl) ?_)|(refine zX.mk ?_)
       rfl
     | some l =>
       rw [hty] at JA
       simp only [Option.map_some]
       try dsimp only
       by_cases hl1:l.length=1
       · obtain ⟨x, rfl⟩ := List.length_eq_one_iff.1 hl1
         have hM:∀ id t,VCalls Tryz.prog 100 [.sl id (ts.map iV++[iV x])] t (fun v t'=>v = .bool (vW 0 (ts++[x])).isSome∧t'=t):=fun id t=>VCalls.forget (by
           rw [show List.map V.forget [V.sl id (ts.map iV++[iV x])]=[ints (ts++[x])] by simp [V.forget,V.xL,ints]]
           exact lC (ts++[x]) (by simp;omega) t)
         rw [show resT env e.kind e.op e.value e.up e.pos ts [[x]]=(vW 0 (ts++[x])).map fun _=>3 by simp [resT,hk],oW]
         have hg:([x].map iV)[0]?=some (iV x):=rfl
         generalize (vW 0 (ts++[x])).isSome=b at hM ⊢
         cases b
         all_goals
           repeat' first|(refine zf ?_;first|(refine zq.nil ?_)|(refine kG ?_;first|(refine zq.gT rfl rfl rfl ?_)|(refine zq.gD true rfl rfl rfl ?_ ?_;(focus (first|(exact decide_eq_true (by assumption))))))|(refine zq.ev zx rfl ?_)|(refine kZ ?_;first|(refine zq.Kl zx rfl rfl rfl rfl rfl rfl rfl rfl rfl rfl rfl ?_))|(refine ji ?_;first|(refine zq.app zx rfl rfl rfl rfl rfl rfl rfl rfl rfl rfl rfl ?_ ?_ (xU.of ?_ rfl) ?_;(focus (first | rfl |(simp <;> fail)));(focus (first | exact zS.of rfl | exact zS.map fun _=>rfl | exact PE.els _ (fun _=>rfl) _));(focus (first | omega |(simp;omega)))))|(refine zo ?_;first|(refine zq.ans (zk.zm zx rfl rfl rfl rfl) ?_))|(refine qx ?_;first|(refine zq.ans (zk.z8 zx rfl rfl rfl) ?_))|(refine xw ?_;first|(refine zq.ans (zk.idx (j:=0) zx rfl rfl rfl rfl rfl hg rfl rfl) ?_))|(refine zy 100 ?_;first|(refine zq.ans (zk.ze rfl rfl rfl (WJ) (hM _ _)) ?_))|(refine zy 99 ?_;first|(refine zq.ans (zk.ze rfl rfl rfl (XE) (j5 _ _ _)) ?_)))|(refine zH ?_;first|(refine WL.seq ?_)|(refine WL.region (by kernel_rfl) ?_)|(refine WL.drawn (id:=23) [0,1,2,3,4,5,6,7,8,9,10,11] [] [[],[],[],[2],[2,3],[2,3,4],[0,1,2,3,4,5],[0,1,2,3,4,5,6],[0,1,2,3,4,5,6,7],[0,1,2,3,4,5,6,7],[0,1,2,3,4,5,6,7,8],[0,1,2,3,4,5,6,7,8,9,10]] (by kernel_rfl) (by kernel_rfl) ?_)|(refine WL.block ?_)|(refine WL.exit ?_)|(refine WL.skip ?_)|(refine WL.ret ?_)|(refine zu ?_;first|(refine WL.qQ rfl ?_)|(refine WL.zJ rfl ?_ ?_;(focus (first|(exact decide_eq_true (by assumption))|(simp <;> omega))))|(refine WL.zY rfl ?_ ?_;(focus (first|(simp <;> omega))))))|(refine vN ?_;first|(refine zA.nil ?_)|(refine zA.fl rfl rfl (.ev zx rfl) ?_)|(refine qo rfl ?_;first|(refine zA.fl rfl rfl (zk.zm zx rfl rfl rfl rfl) ?_))|(refine kQ rfl ?_;first|(refine zA.fl rfl rfl (zk.idx (j:=0) zx rfl rfl rfl rfl rfl hgs rfl rfl) ?_))|(refine qX 24 rfl ?_;first|(refine zA.fl rfl rfl (zk.ze rfl rfl rfl (Y2) (JA _)) ?_)))|(refine zw ?_)|(refine zC ?_)|(refine zQ ?_)|(refine zV ?_)|(refine zL ?_)|(refine zh.r2 (r := .tmp 6) (r' := .tmp 7) (.inl rfl) (zn.tmp rfl) (zn.tmp rfl) ?_)|(refine zX.mk ?_)
           simp [bP,V.forget,V.qE]
       · rw [show resT env e.kind e.op e.value e.up e.pos ts [l] = none by simp [resT, hk, hl1]]
         have hl2:¬ (l.length:Int)=1:=by omega
         repeat' first|(refine zf ?_;first|(refine zq.nil ?_)|(refine kG ?_;first|(refine zq.gT rfl rfl rfl ?_)|(refine zq.gD true rfl rfl rfl ?_ ?_;(focus (first|(exact decide_eq_true (by assumption))))))|(refine zq.ev zx rfl ?_)|(refine zo ?_;first|(refine zq.ans (zk.zm zx rfl rfl rfl rfl) ?_))|(refine qx ?_;first|(refine zq.ans (zk.z8 zx rfl rfl rfl) ?_)))|(refine zH ?_;first|(refine WL.seq ?_)|(refine WL.region (by kernel_rfl) ?_)|(refine WL.drawn (id:=23) [0,1,2,3,4,5,6,7,8,9,10,11] [] [[],[],[],[2],[2,3],[2,3,4],[0,1,2,3,4,5],[0,1,2,3,4,5,6],[0,1,2,3,4,5,6,7],[0,1,2,3,4,5,6,7],[0,1,2,3,4,5,6,7,8],[0,1,2,3,4,5,6,7,8,9,10]] (by kernel_rfl) (by kernel_rfl) ?_)|(refine WL.block ?_)|(refine WL.exit ?_)|(refine WL.skip ?_)|(refine WL.ret ?_)|(refine zu ?_;first|(refine WL.zJ rfl ?_ ?_;(focus (first|(simp <;> omega))))|(refine WL.zY rfl ?_ ?_;(focus (first|(simp <;> omega))))))|(refine vN ?_;first|(refine zA.nil ?_)|(refine zA.fl rfl rfl (.ev zx rfl) ?_)|(refine qo rfl ?_;first|(refine zA.fl rfl rfl (zk.zm zx rfl rfl rfl rfl) ?_))|(refine kQ rfl ?_;first|(refine zA.fl rfl rfl (zk.idx (j:=0) zx rfl rfl rfl rfl rfl hgs rfl rfl) ?_))|(refine qX 24 rfl ?_;first|(refine zA.fl rfl rfl (zk.ze rfl rfl rfl (Y2) (JA _)) ?_)))|(refine zw ?_)|(refine zZ ?_)|(refine zC ?_)|(refine zQ ?_)|(refine zV ?_)|(refine zL ?_)|(refine zh.r2 (r := .tmp 6) (r' := .tmp 7) (.inl rfl) (zn.tmp rfl) (zn.tmp rfl) ?_)|(refine zX.mk ?_)
         rfl
   · have JA := MV p (by rw [h2]; simp)
     have hs1:e.sub.length=1:=by rw [h2];rfl
     have hgs:(e.sub.map PE.xu)[0]?=some (PL.v p):=by rw [h2];simp [PE.kX]
     rw [h1] at htl
     have hts:ts=[]:=List.eq_nil_of_length_eq_zero htl
     have hM2:∀ id t,VCalls Tryz.prog 100 [.sl id (ts.map iV)] t (fun v t'=>v = .bool true∧t'=t):=fun id t=>by
       have:=hM id t
       rw [show (vW 0 ts).isSome=true by rw [hts];rfl] at this
       exact this
     rw [h2,Ku]
     cases hty:PE.ZA c env p with
     | none =>
       rw [hty] at JA
       repeat' first|(refine zf ?_;first|(refine zq.nil ?_)|(refine kG ?_;first|(refine zq.gF rfl rfl rfl ?_)|(refine zq.gU rfl rfl ?_))|(refine zq.ev zx rfl ?_)|(refine zo ?_;first|(refine zq.ans (zk.zm zx rfl rfl rfl rfl) ?_))|(refine qx ?_;first|(refine zq.ans (zk.z8 zx rfl rfl rfl) ?_)))|(refine zH ?_;first|(refine WL.seq ?_)|(refine WL.region (by kernel_rfl) ?_)|(refine WL.drawn (id:=23) [0,1,2,3,4,5,6,7,8,9,10,11] [] [[],[],[],[2],[2,3],[2,3,4],[0,1,2,3,4,5],[0,1,2,3,4,5,6],[0,1,2,3,4,5,6,7],[0,1,2,3,4,5,6,7],[0,1,2,3,4,5,6,7,8],[0,1,2,3,4,5,6,7,8,9,10]] (by kernel_rfl) (by kernel_rfl) ?_)|(refine WL.block ?_)|(refine WL.exit ?_)|(refine WL.skip ?_)|(refine WL.ret ?_)|(refine zu ?_;first|(refine WL.qb rfl ?_)|(refine WL.zJ rfl ?_ ?_;(focus (first|(simp <;> omega))))|(refine WL.zY rfl ?_ ?_;(focus (first|(simp <;> omega))))))|(refine vN ?_;first|(refine zA.nil ?_)|(refine zA.fl rfl rfl (.ev zx rfl) ?_)|(refine qo rfl ?_;first|(refine zA.fl rfl rfl (zk.zm zx rfl rfl rfl rfl) ?_))|(refine kQ rfl ?_;first|(refine zA.fl rfl rfl (zk.idx (j:=0) zx rfl rfl rfl rfl rfl hgs rfl rfl) ?_))|(refine qX 24 rfl ?_;first|(refine zA.fl rfl rfl (zk.ze rfl rfl rfl (Y2) (JA _)) ?_)))|(refine zw ?_)|(refine zZ ?_)|(refine zC ?_)|(refine zQ ?_)|(refine zV ?_)|(refine zL ?_)|(refine zh.r2 (r := .tmp 6) (r' := .tmp 7) (.inl rfl) (zn.tmp rfl) (zn.tmp rfl) ?_)|(refine zX.mk ?_)
       rfl
     | some l =>
       rw [hty] at JA
       simp only [Option.map_some]
       try dsimp only
       rw [show resT env e.kind e.op e.value e.up e.pos ts [l]=some 3 by simp [resT,hk]]
       repeat' first|(refine zf ?_;first|(refine zq.nil ?_)|(refine kG ?_;first|(refine zq.gT rfl rfl rfl ?_)|(refine zq.gF rfl rfl rfl ?_)|(refine zq.gD false rfl rfl rfl ?_ ?_;(focus (first|(simp <;> omega)))))|(refine zq.ev zx rfl ?_)|(refine zo ?_;first|(refine zq.ans (zk.zm zx rfl rfl rfl rfl) ?_))|(refine qx ?_;first|(refine zq.ans (zk.z8 zx rfl rfl rfl) ?_))|(refine zy 100 ?_;first|(refine zq.ans (zk.ze rfl rfl rfl (WJ) (hM2 _ _)) ?_))|(refine zy 99 ?_;first|(refine zq.ans (zk.ze rfl rfl rfl (XE) (j5 _ _ _)) ?_)))|(refine zH ?_;first|(refine WL.seq ?_)|(refine WL.region (by kernel_rfl) ?_)|(refine WL.drawn (id:=23) [0,1,2,3,4,5,6,7,8,9,10,11] [] [[],[],[],[2],[2,3],[2,3,4],[0,1,2,3,4,5],[0,1,2,3,4,5,6],[0,1,2,3,4,5,6,7],[0,1,2,3,4,5,6,7],[0,1,2,3,4,5,6,7,8],[0,1,2,3,4,5,6,7,8,9,10]] (by kernel_rfl) (by kernel_rfl) ?_)|(refine WL.block ?_)|(refine WL.exit ?_)|(refine WL.skip ?_)|(refine WL.ret ?_)|(refine zu ?_;first|(refine WL.qQ rfl ?_)|(refine WL.zJ rfl ?_ ?_;(focus (first|(simp <;> omega))))|(refine WL.zY rfl ?_ ?_;(focus (first|(simp <;> omega))))))|(refine vN ?_;first|(refine zA.nil ?_)|(refine zA.fl rfl rfl (.ev zx rfl) ?_)|(refine qo rfl ?_;first|(refine zA.fl rfl rfl (zk.zm zx rfl rfl rfl rfl) ?_))|(refine kQ rfl ?_;first|(refine zA.fl rfl rfl (zk.idx (j:=0) zx rfl rfl rfl rfl rfl hgs rfl rfl) ?_))|(refine qX 24 rfl ?_;first|(refine zA.fl rfl rfl (zk.ze rfl rfl rfl (Y2) (JA _)) ?_)))|(refine zw ?_)|(refine zC ?_)|(refine zQ ?_)|(refine zV ?_)|(refine zL ?_)|(refine zh.r2 (r := .tmp 6) (r' := .tmp 7) (.inl rfl) (zn.tmp rfl) (zn.tmp rfl) ?_)|(refine zX.mk ?_)
       simp [eU,bP,V.forget,V.qE]
end Go.Proofs.YtolhegocbkckdaaGreat
