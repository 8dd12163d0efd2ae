/-
  RowTypes as plain results. Printed by a program of our own; no condition.
  Is each Up of a plan's tree in its bounds: by the program and by the reference.
  Own work; no condition.
-/
import Derived.Test.YtolhegocbkckdaaGreatMg27
import Derived.Test.YtolhegocbkckdaaGreatMg38
namespace Go.Proofs.YtolhegocbkckdaaGreat
open Go
set_option linter.unusedSimpArgs false
set_option linter.unusedVariables false
@[simp] theorem LB (r:List Int × Bool):(Zr r).dat=true:=by simp [Zr]
theorem aT (c:jy) (ts:List Int) (h:c.wt≤1048576) (ht:ts.length≤1048576) (s:S):VCalls Tryz.prog 62 [c.zF,ints ts] s (fun v t=>v=Zr (jU c ts)∧t=s):=by
 have hl:=jA Tab.wt c.tables
 have hcw:=h
 simp only [jy.wt] at hcw
 refine zi.pure Tryz.func62 rfl (by kernel_rfl) (by simp) ?_
 repeat' first|(refine zf ?_;first|(refine zq.nil ?_)|(refine zq.ev zx rfl ?_)|(refine qW ?_;refine zq.box rfl rfl rfl rfl ?_)|(refine kZ ?_;first|(refine zq.uT zx rfl rfl rfl rfl rfl ?_)))|(refine zH ?_;first|(refine WL.seq ?_)|(refine WL.region (by kernel_rfl) ?_)|(refine WL.block ?_))|(refine zw ?_)
 refine WL.mV (t:=6) 1 rfl rfl rfl rfl ?_
 refine WL.xK (fun i:Nat=>ts.length - i) (fun i=>[(1,ints ts),(2,.ptr (s.next+0) 0),(6,.sl (s.next+1) ((rowsOf c (ts.take i)).map iV)),(7,.int .i64 (i:Int))]) (fun i=>[.var [.sl 0 (c.tables.map Tab.zF)],.fam (rowsOf c (ts.take i)).length 1])
   (fun i=>i≤ts.length∧(ts.take i).all (wB c)=true) 2 0 (by simp) (fun _=>rfl) ⟨rfl,rfl,rfl,rfl,trivial⟩ rfl (fun i hi=>?_) (fun i hi=>?_)
 · simp [qF,qG,Own.under,V.under,V.zO,ints]
 obtain ⟨hi,ha⟩:=hi
 have hlen:=aP c h (ts.take i)
 rw [List.length_take,Nat.min_eq_left hi] at hlen
 rcases Nat.lt_or_ge i ts.length with hlt | hge
 · cases hr : wB c ts[i]
   · rw [Zp hlt hr]
     have hga:(ts.map iV)[i]?=some (iV ts[i]):=by simp [hlt]
     generalize ts[i]=k at hga hr
     have hI:∀ t,VCalls Tryz.prog 27 [.int .i64 k,.int .i64 0,.int .i64 ((c.tables.length:Int) - 1)] t (fun v t'=>v = .bool false∧t'=t):=fun t=>by rw [← hr];exact q9 _ _ _ t
     repeat' first|(refine zf ?_;first|(refine zq.nil ?_)|(refine zq.ev zx rfl ?_)|(refine kZ ?_;first|(refine zq.uT zx rfl rfl rfl rfl rfl ?_))|(refine qx ?_;first|(refine zq.ans (zk.z8 zx rfl rfl rfl) ?_)))|(refine zH ?_;first|(refine WL.seq ?_)|(refine WL.region (by kernel_rfl) ?_)|(refine WL.drawn (id:=5) [0,1,2,3,4,5,6,7,8,9] [] [[],[],[0,1],[0,1,2],[],[4],[4,5],[4,5,6],[0,1,2,3,4,5,6,7],[0,1,2,3,4,5,6,7,8]] (by kernel_rfl) (by kernel_rfl) ?_)|(refine WL.block ?_)|(refine WL.skip ?_)|(refine WL.ret ?_)|(refine zu ?_;first|(refine WL.qb rfl ?_)|(refine WL.zJ rfl ?_ ?_;(focus (first|(simp <;> omega))))))|(refine vN ?_;first|(refine zA.nil ?_)|(refine zA.fl rfl rfl (.ev zx rfl) ?_)|(refine qo rfl ?_;first|(refine zA.fl rfl rfl (zk.zm zx rfl rfl rfl rfl) ?_))|(refine uM rfl ?_;first|(refine zA.fl rfl rfl (zk.z8 zx rfl rfl rfl) ?_))|(refine yj rfl ?_;first|(refine zA.fl rfl rfl (zk.sub rfl rfl ?_) ?_;(focus (constructor <;> omega))))|(refine kQ rfl ?_;first|(refine zA.fl rfl rfl (zk.idx zx rfl rfl rfl rfl rfl hga rfl rfl) ?_))|(refine qX 27 rfl ?_;first|(refine zA.fl rfl rfl (zk.ze rfl rfl rfl (jO) (hI _)) ?_)))|(refine zw ?_)|(refine zZ ?_)|(refine zB ?_)|(refine qH ?_)|(refine zh.r2 (r := .tmp 4) (r' := .tmp 5) (.inl rfl) (zn.tmp rfl) (zn.tmp rfl) ?_)|(refine zX.mk ?_)
     simp [Zr,ints,V.forget,V.qE]
   · have hall := uW (p := wB c) hlt
     rw [ha,hr] at hall
     obtain ⟨n,hn,hnt⟩:=pY hr
     have htk:=gK hlt hn hnt
     have hga:(ts.map iV)[i]?=some (iV (n:Int)):=by simp [hlt,hn]
     have hw:=iB (f:=Tab.wt) hnt
     have hT:∀ t,VCalls Tryz.prog 94 [c.tables[n].zF] t (fun v t'=>v=ints c.tables[n].types∧t'=t):=fun t =>
       VCalls.mU (zG (pW _) rfl) (wX _) (fun t=>lY c.tables[n] (by omega) t) t
     have hgb:(c.tables.map Tab.zF)[n]?=some c.tables[n].zF:=by simp [hnt]
     have htl:c.tables[n].types.length≤1048576:=by
       have h3:=jA Col.wt c.tables[n].qO
       simp only [Tab.wt] at hw
       simp only [Tab.types,List.length_map]
       omega
     have hrn:jw (n:Int) 0 ((c.tables.length:Int) - 1)=true:=by rw [← hn];exact hr
     generalize c.tables[n]=tb at hgb htk hT htl
     have hI:∀ t,VCalls Tryz.prog 27 [.int .i64 (n:Int),.int .i64 0,.int .i64 ((c.tables.length:Int) - 1)] t (fun v t'=>v = .bool true∧t'=t):=fun t=>by rw [← hrn];exact q9 _ _ _ t
     repeat' first|(refine zf ?_;first|(refine zq.nil ?_)|(refine zq.ev zx rfl ?_)|(refine ji ?_;first|(refine zq.app zx rfl rfl rfl rfl rfl rfl rfl rfl rfl rfl rfl ?_ ?_ (xU.of ?_ rfl) ?_;(focus (first | rfl |(simp <;> fail)));(focus (first | exact zS.of rfl | exact zS.map fun _=>rfl | exact PE.els _ (fun _=>rfl) _));(focus (first | omega |(simp;omega)))))|(refine qx ?_;first|(refine zq.ans (zk.z8 zx rfl rfl rfl) ?_))|(refine xk ?_;first|(refine zq.ans (zk.add rfl rfl ?_) ?_;(focus (constructor <;> omega)))))|(refine zH ?_;first|(refine WL.seq ?_)|(refine WL.region (by kernel_rfl) ?_)|(refine WL.drawn (id:=5) [0,1,2,3,4,5,6,7,8,9] [] [[],[],[0,1],[0,1,2],[],[4],[4,5],[4,5,6],[0,1,2,3,4,5,6,7],[0,1,2,3,4,5,6,7,8]] (by kernel_rfl) (by kernel_rfl) ?_)|(refine WL.drawn (id:=7) [0,1,2,3,4,5,6,7,8,9,10,11] [10,11] [[],[],[1],[],[],[3,4],[3,4,5],[1,2,3,4,5,6],[1,2,3,4,5,6,7],[1,2,3,4,5,6,7,8],[0,1,2,3,4,5,6,7,8,9],[0,1,2,3,4,5,6,7,8,9,10]] (by kernel_rfl) (by kernel_rfl) ?_)|(refine WL.block ?_)|(refine WL.skip ?_)|(refine zu ?_;first|(refine WL.qQ rfl ?_)|(refine WL.zJ rfl ?_ ?_;(focus (first|(simp <;> omega))))))|(refine vN ?_;first|(refine zA.nil ?_)|(refine zA.fl rfl rfl (.ev zx rfl) ?_)|(refine qo rfl ?_;first|(refine zA.fl rfl rfl (zk.zm zx rfl rfl rfl rfl) ?_))|(refine uM rfl ?_;first|(refine zA.fl rfl rfl (zk.z8 zx rfl rfl rfl) ?_))|(refine yj rfl ?_;first|(refine zA.fl rfl rfl (zk.sub rfl rfl ?_) ?_;(focus (constructor <;> omega))))|(refine kQ rfl ?_;first|(refine zA.fl rfl rfl (zk.idx zx rfl rfl rfl rfl rfl hga rfl rfl) ?_)|(refine zA.fl rfl rfl (zk.idx zx rfl rfl rfl rfl rfl hgb rfl rfl) ?_))|(refine qX 27 rfl ?_;first|(refine zA.fl rfl rfl (zk.ze rfl rfl rfl (jO) (hI _)) ?_))|(refine qX 94 rfl ?_;first|(refine zA.fl rfl rfl (zk.ze rfl rfl rfl (Hr) (hT _)) ?_))|(refine zA.iY rfl rfl rfl ?_))|(refine zw ?_)|(refine zQ ?_)|(refine And.intro ?_ ?_)|(exact xR.nil)
     refine qB.of (i+1) ⟨by omega,hall⟩ (by omega) ?_ ?_
     · rw [htk, List.map_append]
       exact ⟨rfl,rfl,rfl,rfl,trivial⟩
     · rw [htk]
       simp
 · rw [List.take_of_length_le hge] at ha ⊢
   repeat' first|(refine zf ?_;first|(refine zq.nil ?_)|(refine zq.ev zx rfl ?_)|(refine qx ?_;first|(refine zq.ans (zk.z8 zx rfl rfl rfl) ?_)))|(refine zH ?_;first|(refine WL.seq ?_)|(refine WL.region (by kernel_rfl) ?_)|(refine WL.exit ?_)|(refine WL.ret ?_)|(refine zu ?_;first|(refine WL.zY rfl ?_ ?_;(focus (first|(simp <;> omega))))))|(refine zw ?_)|(refine zC ?_)|(refine zV ?_)|(refine zL ?_)|(refine zh.r2 (r := .tmp 4) (r' := .tmp 5) (.inl rfl) (zn.tmp rfl) (zn.tmp rfl) ?_)|(refine zX.mk ?_)
   have e:jU c ts=(rowsOf c ts,true):=by simp only [jU,ha,if_true]
   rw [e]
   simp [Zr,ints,V.forget,V.qE]
theorem bq (c:jy) (ts:List Int) (h:c.wt≤1048576) (ht:ts.length≤1048576) (s:S):VCalls Tryz.prog 14 [c.zF,ints ts] s (fun v t=>v=Zr (jU c ts)∧t=s):=by
 have hl:=jA Tab.wt c.tables
 have hcw:=h
 simp only [jy.wt] at hcw
 refine zi.pure Tryz.func14 rfl (by kernel_rfl) (by simp) ?_
 repeat' first|(refine zf ?_;first|(refine zq.nil ?_)|(refine zq.ev zx rfl ?_)|(refine qW ?_;refine zq.box rfl rfl rfl rfl ?_)|(refine kZ ?_;first|(refine zq.uT zx rfl rfl rfl rfl rfl ?_))|(refine qx ?_;first|(refine zq.ans (zk.z8 zx rfl rfl rfl) ?_)))|(refine zH ?_;first|(refine WL.seq ?_)|(refine WL.region (by kernel_rfl) ?_)|(refine WL.block ?_))|(refine zw ?_)
 refine WL.mV (t:=6) 1 rfl rfl rfl rfl ?_
 refine WL.xK (fun i:Nat=>ts.length - i) (fun i=>[(2,.ptr (s.next+0) 0),(6,.sl (s.next+1) ((rowsOf c (ts.take i)).map iV)),(10,ints ts),(11,.int .i64 ts.length),(12,.int .i64 (i:Int))]) (fun i=>[.var [.sl 0 (c.tables.map Tab.zF)],.fam (rowsOf c (ts.take i)).length 1])
   (fun i=>i≤ts.length∧(ts.take i).all (wB c)=true) 2 0 (by simp) (fun _=>rfl) ⟨rfl,rfl,rfl,rfl,rfl,trivial⟩ rfl (fun i hi=>?_) (fun i hi=>?_)
 · simp [qF,qG,Own.under,V.under,V.zO,ints]
 obtain ⟨hi,ha⟩:=hi
 have hlen:=aP c h (ts.take i)
 rw [List.length_take,Nat.min_eq_left hi] at hlen
 rcases Nat.lt_or_ge i ts.length with hlt | hge
 · cases hr : wB c ts[i]
   · rw [Zp hlt hr]
     have hga:(ts.map iV)[i]?=some (iV ts[i]):=by simp [hlt]
     generalize ts[i]=k at hga hr
     simp only [wB,jw,Bool.and_eq_false_iff,decide_eq_false_iff_not] at hr
     by_cases hk:k<0
     · skip
       repeat' first|(refine zf ?_;first|(refine zq.nil ?_)|(refine kG ?_;first|(refine zq.gF rfl rfl rfl ?_)|(refine zq.gD true rfl rfl rfl ?_ ?_;(focus (first|(exact decide_eq_true (by assumption))))))|(refine zq.ev zx rfl ?_)|(refine xw ?_;first|(refine zq.ans (zk.idx zx rfl rfl rfl rfl rfl hga rfl rfl) ?_)))|(refine zH ?_;first|(refine WL.seq ?_)|(refine WL.region (by kernel_rfl) ?_)|(refine WL.block ?_)|(refine WL.skip ?_)|(refine WL.ret ?_)|(refine zu ?_;first|(refine WL.qb rfl ?_)|(refine WL.zJ rfl ?_ ?_;(focus (first|(simp <;> omega))))))|(refine zw ?_)|(refine zZ ?_)|(refine zB ?_)|(refine qH ?_)|(refine zh.r2 (r := .tmp 4) (r' := .tmp 5) (.inl rfl) (zn.tmp rfl) (zn.tmp rfl) ?_)|(refine zX.mk ?_)
       simp [Zr,ints,V.forget,V.qE]
     · have hk2 : (c.tables.length : Int) ≤ k := by omega
       repeat' first|(refine zf ?_;first|(refine zq.nil ?_)|(refine kG ?_;first|(refine zq.gT rfl rfl rfl ?_)|(refine zq.gD false rfl rfl rfl ?_ ?_;(focus (first|(exact decide_eq_false (by assumption))))))|(refine zq.ev zx rfl ?_)|(refine zo ?_;first|(refine zq.ans (zk.zm zx rfl rfl rfl rfl) ?_))|(refine qx ?_;first|(refine zq.ans (zk.z8 zx rfl rfl rfl) ?_))|(refine xw ?_;first|(refine zq.ans (zk.idx zx rfl rfl rfl rfl rfl hga rfl rfl) ?_)))|(refine zH ?_;first|(refine WL.seq ?_)|(refine WL.region (by kernel_rfl) ?_)|(refine WL.block ?_)|(refine WL.skip ?_)|(refine WL.ret ?_)|(refine zu ?_;first|(refine WL.zJ rfl ?_ ?_;(focus (first|(exact decide_eq_true (by assumption))|(simp <;> omega))))))|(refine zw ?_)|(refine zZ ?_)|(refine zB ?_)|(refine qH ?_)|(refine zh.r2 (r := .tmp 4) (r' := .tmp 5) (.inl rfl) (zn.tmp rfl) (zn.tmp rfl) ?_)|(refine zX.mk ?_)
       simp [Zr,ints,V.forget,V.qE]
   · have hall := uW (p := wB c) hlt
     rw [ha,hr] at hall
     obtain ⟨n,hn,hnt⟩:=pY hr
     have htk:=gK hlt hn hnt
     have hga:(ts.map iV)[i]?=some (iV (n:Int)):=by simp [hlt,hn]
     have hw:=iB (f:=Tab.wt) hnt
     have hT:∀ t,VCalls Tryz.prog 35 [c.tables[n].zF] t (fun v t'=>v=ints c.tables[n].types∧t'=t):=fun t =>
       VCalls.mU (zG (pW _) rfl) (wX _) (fun t=>Qu c.tables[n] (by omega) t) t
     have hgb:(c.tables.map Tab.zF)[n]?=some c.tables[n].zF:=by simp [hnt]
     have htl:c.tables[n].types.length≤1048576:=by
       have h3:=jA Col.wt c.tables[n].qO
       simp only [Tab.wt] at hw
       simp only [Tab.types,List.length_map]
       omega
     have hrn:jw (n:Int) 0 ((c.tables.length:Int) - 1)=true:=by rw [← hn];exact hr
     generalize c.tables[n]=tb at hgb htk hT htl
     have hk:¬ (n:Int)<0:=by omega
     have hk2:¬ (c.tables.length:Int)≤n:=by omega
     repeat' first|(refine zf ?_;first|(refine zq.nil ?_)|(refine kG ?_;first|(refine zq.gT rfl rfl rfl ?_))|(refine zq.ev zx rfl ?_)|(refine ji ?_;first|(refine zq.app zx rfl rfl rfl rfl rfl rfl rfl rfl rfl rfl rfl ?_ ?_ (xU.of ?_ rfl) ?_;(focus (first | rfl |(simp <;> fail)));(focus (first | exact zS.of rfl | exact zS.map fun _=>rfl | exact PE.els _ (fun _=>rfl) _));(focus (first | omega |(simp;omega)))))|(refine zo ?_;first|(refine zq.ans (zk.zm zx rfl rfl rfl rfl) ?_))|(refine qx ?_;first|(refine zq.ans (zk.z8 zx rfl rfl rfl) ?_))|(refine xk ?_;first|(refine zq.ans (zk.add rfl rfl ?_) ?_;(focus (constructor <;> omega))))|(refine xw ?_;first|(refine zq.ans (zk.idx zx rfl rfl rfl rfl rfl hga rfl rfl) ?_)|(refine zq.ans (zk.idx zx rfl rfl rfl rfl rfl hgb rfl rfl) ?_))|(refine zy 35 ?_;first|(refine zq.ans (zk.ze rfl rfl rfl (NT) (hT _)) ?_)))|(refine zH ?_;first|(refine WL.seq ?_)|(refine WL.region (by kernel_rfl) ?_)|(refine WL.block ?_)|(refine WL.skip ?_)|(refine zu ?_;first|(refine WL.zJ rfl ?_ ?_;(focus (first|(simp <;> omega))))|(refine WL.zY rfl ?_ ?_;(focus (first|(exact decide_eq_false (by assumption)))))))|(refine zw ?_)|(refine zQ ?_)
     refine qB.of (i+1) ⟨by omega,hall⟩ (by omega) ?_ ?_
     · rw [htk, List.map_append]
       exact ⟨rfl,rfl,rfl,rfl,rfl,trivial⟩
     · rw [htk]
       simp
 · rw [List.take_of_length_le hge] at ha ⊢
   repeat' first|(refine zf ?_;first|(refine zq.nil ?_)|(refine zq.ev zx rfl ?_))|(refine zH ?_;first|(refine WL.seq ?_)|(refine WL.region (by kernel_rfl) ?_)|(refine WL.exit ?_)|(refine WL.ret ?_)|(refine zu ?_;first|(refine WL.zY rfl ?_ ?_;(focus (first|(simp <;> omega))))))|(refine zw ?_)|(refine zC ?_)|(refine zV ?_)|(refine zL ?_)|(refine zh.r2 (r := .tmp 4) (r' := .tmp 5) (.inl rfl) (zn.tmp rfl) (zn.tmp rfl) ?_)|(refine zX.mk ?_)
   have e:jU c ts=(rowsOf c ts,true):=by simp only [jU,ha,if_true]
   rw [e]
   simp [Zr,ints,V.forget,V.qE]
end Go.Proofs.YtolhegocbkckdaaGreat

namespace Go.Proofs.YtolhegocbkckdaaGreat
open Go
set_option linter.unusedSimpArgs false
set_option linter.unusedVariables false
theorem eB {α : Type} {p : α → Bool}:∀ (xs:List α) (k:Int),0≤k→decide (vQ p xs k≥0)=xs.any p
 | [],k,_=>by simp [vQ]
 | x::xs,k,hk=>by
   unfold vQ
   rw [List.any_cons]
   cases hp:p x
   · simp only [Bool.false_eq_true, if_false, Bool.false_or]
     exact eB xs (k+1) (by omega)
   · simp [hk]
theorem pE (xs:List (PE)) (p:PE→Bool) (g:FuncId) (caps:List V) (hxs:xs.length≤16777216) (s:S) (hg:zW Tryz.prog g) (hcd:V.zO s.next caps=true)
   (hp:∀ x∈xs,∀ ys,VCalls Tryz.prog g (PE.v x::caps) (s.ext ys) (fun v s'=>v = .bool (p x)∧s'=s.ext ys)) :
   VCalls Tryz.prog 88 [.sl 0 (xs.map PE.zF),.fn g caps] s (fun v s'=>v = .int .i64 (vQ p xs 0)∧s'=s):=by
 refine zi.pure Tryz.func88 rfl (by kernel_rfl) (by simp) ?_
 repeat' first|(refine zf ?_;first|(refine zq.nil ?_)|(refine zq.ev zx rfl ?_)|(refine qx ?_;first|(refine zq.ans (zk.z8 zx rfl rfl rfl) ?_)))|(refine zH ?_;first|(refine WL.seq ?_)|(refine WL.region (by kernel_rfl) ?_)|(refine WL.block ?_))|(refine zw ?_)
 refine WL.xK (fun i:Nat=>xs.length - i) (fun i=>[(0,.sl 0 (xs.map PE.zF)),(1,.fn g caps),(7,.int .i64 xs.length),(8,.int .i64 (i:Int))]) (fun i=>[])
   (fun i=>i≤xs.length∧vQ p xs 0=vQ p (xs.drop i) i) 0 0 ⟨by simp,rfl⟩ (fun _=>rfl) ⟨rfl,rfl,rfl,rfl,trivial⟩ rfl (fun i hi=>?_) (fun i hi=>?_)
 · simp [qF,qG,Own.under,V.under,V.zO,hcd]
 obtain ⟨hi,hc⟩:=hi
 rcases Nat.lt_or_ge i xs.length with hlt | hge
 · rw [wM hlt] at hc
   have hE:=fun ys=>hp xs[i] (List.getElem_mem hlt) ys
   have hga:(xs.map PE.zF)[i]?=some (PE.v xs[i]):=by simp [hlt,PE.qK]
   cases hpx:p xs[i]
   all_goals rw [hpx] at hE hc
   · generalize xs[i] = y at hga hE
     repeat' first|(refine zf ?_;first|(refine zq.nil ?_)|(refine zq.ev zx rfl ?_)|(refine xk ?_;first|(refine zq.ans (zk.add rfl rfl ?_) ?_;(focus (constructor <;> omega))))|(refine xw ?_;first|(refine zq.ans (zk.idx zx rfl rfl rfl rfl rfl hga rfl rfl) ?_))|(refine dw ?_;first|(refine zq.ans (zk.ze rfl rfl rfl (hg) (hE _)) ?_)))|(refine zH ?_;first|(refine WL.seq ?_)|(refine WL.region (by kernel_rfl) ?_)|(refine WL.block ?_)|(refine WL.skip ?_)|(refine zu ?_;first|(refine WL.qQ rfl ?_)|(refine WL.zJ rfl ?_ ?_;(focus (first|(simp <;> omega))))))|(refine zw ?_)|(refine zQ ?_)
     all_goals
       refine qB.of (i+1) ?_ ?_ ?_ ?_
       · first | omega |(refine ⟨?_,?_⟩;(focus (first | omega |(simp;omega)));(first | omega |(simp_all [hc] <;> fail)|(simp_all [hc];omega)))|(simp_all [hc] <;> fail)|(simp_all [hc];omega)
       · first | omega |(simp;omega) | simp_all
       · repeat' first
           | exact qz.nil
           |(refine qz.mk rfl ?_ ?_)
           | rfl
           |(simp [hc] <;> fail)
           |(simp [hc];omega)
       · first | rfl |(simp [hc] <;> fail)|(simp [hc];omega)
   · generalize xs[i] = y at hga hE
     repeat' first|(refine zf ?_;first|(refine zq.nil ?_)|(refine zq.ev zx rfl ?_)|(refine xw ?_;first|(refine zq.ans (zk.idx zx rfl rfl rfl rfl rfl hga rfl rfl) ?_))|(refine dw ?_;first|(refine zq.ans (zk.ze rfl rfl rfl (hg) (hE _)) ?_)))|(refine zH ?_;first|(refine WL.seq ?_)|(refine WL.region (by kernel_rfl) ?_)|(refine WL.block ?_)|(refine WL.skip ?_)|(refine WL.ret ?_)|(refine zu ?_;first|(refine WL.qb rfl ?_)|(refine WL.zJ rfl ?_ ?_;(focus (first|(simp <;> omega))))))|(refine zw ?_)|(refine zZ ?_)|(refine zB ?_)|(refine qH ?_)|(refine zh.r1 (r := .tmp 4) (.inl rfl) (zn.tmp rfl) ?_)|(refine zX.mk ?_)
     simp_all
 · rw [yR hge] at hc
   repeat' first|(refine zf ?_;first|(refine zq.nil ?_)|(refine zq.ev zx rfl ?_))|(refine zH ?_;first|(refine WL.seq ?_)|(refine WL.region (by kernel_rfl) ?_)|(refine WL.exit ?_)|(refine WL.ret ?_)|(refine zu ?_;first|(refine WL.zY rfl ?_ ?_;(focus (first|(simp <;> omega))))))|(refine zw ?_)|(refine zC ?_)|(refine zV ?_)|(refine zL ?_)|(refine zh.r1 (r := .tmp 4) (.inl rfl) (zn.tmp rfl) ?_)|(refine zX.mk ?_)
   simp [hc]
theorem iL (xs:List (PE)) (p:PE→Bool) (g:FuncId) (caps:List V) (hxs:xs.length≤16777216) (s:S) (hg:zW Tryz.prog g) (hcd:V.zO s.next caps=true)
   (hp:∀ x∈xs,∀ ys,VCalls Tryz.prog g (PE.v x::caps) (s.ext ys) (fun v s'=>v = .bool (p x)∧s'=s.ext ys)) :
   VCalls Tryz.prog 56 [.sl 0 (xs.map PE.zF),.fn g caps] s (fun v s'=>v = .bool (xs.any p)∧s'=s):=by
 have hp2:∀ x∈xs,∀ zs ys,VCalls Tryz.prog g (PE.v x::caps) ((s.ext zs).ext ys) (fun v s'=>v = .bool (p x)∧s'=(s.ext zs).ext ys):=fun x hx zs ys=>by rw [iQ];exact hp x hx _
 rw [← eB xs 0 (by omega)]
 refine zi.pure Tryz.func56 rfl (by kernel_rfl) (by simp) ?_
 repeat' first|(refine zf ?_;first|(refine zq.nil ?_)|(refine zq.ev zx rfl ?_)|(refine zy 88 ?_;first|(refine zq.ans (zk.ze rfl rfl rfl (Om) (pE _ p _ _ hxs _ hg ?_ ?_)) ?_;(focus (exact hcd));(focus (exact fun x hx ys=>hp2 x hx _ ys)))))|(refine zH ?_;first|(refine WL.seq ?_)|(refine WL.region (by kernel_rfl) ?_)|(refine WL.ret ?_))|(refine zw ?_)|(refine zh.r1 (r := .tmp 4) (.inl rfl) (zn.tmp rfl) ?_)|(refine zX.mk ?_)
 rfl
def RF (P:Program) (g:FuncId) (e:PE):Prop:=∀ s:S,VCalls P g [e.v] s (fun v s'=>v = .bool e.ups∧s'=s)
theorem Yd {α : Type} (p : α → Bool) (l:List α):l.any (fun x => !p x) = !l.all p:=by
 induction l with
 | nil=>rfl
 | cons x l ih=>simp only [List.any_cons,List.all_cons,ih,Bool.not_and]
theorem FX {α : Type} {p : α → Bool} {l:List α} {i:Nat} (hi:i<l.length):(l.take (i+1)).all p=((l.take i).all p&&p l[i]):=by
 rw [List.take_succ_eq_append_getElem hi,List.all_append]
 simp
theorem MJ {α : Type} {p : α → Bool} {l:List α} {i:Nat} (hi:i<l.length) (h:p l[i]=false):l.all p=false:=by
 rw [List.all_eq_false]
 exact ⟨l[i],List.getElem_mem hi,by simp [h]⟩
end Go.Proofs.YtolhegocbkckdaaGreat
