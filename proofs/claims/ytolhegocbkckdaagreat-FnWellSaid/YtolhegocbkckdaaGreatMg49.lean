/-
  What is well typed, plainly: nothing leads out of it, its rows are there.
  Well-typed plans, by the program and by the reference.
  Copies of plans' trees and plans; maps over their parts.
  Copies of plans' trees by the program and by the reference.
  Own work; no condition.
-/
import Derived.Test.YtolhegocbkckdaaGreatMg38
import Derived.Test.YtolhegocbkckdaaGreatDCat3
import Derived.Test.YtolhegocbkckdaaGreatDTyI
import Derived.Test.YtolhegocbkckdaaGreatDTyD
import Derived.Test.YtolhegocbkckdaaGreatDTyG
import Derived.Test.YtolhegocbkckdaaGreatMg11
namespace Go.Proofs.YtolhegocbkckdaaGreat
open Go
set_option linter.unusedSimpArgs false
set_option linter.unusedVariables false
section
variable {c:jy}
theorem V3 {p:PL} {l:List Int} (h:PE.ZA c [] p=some l):∀ k∈p.parts,k.col zT 1=[]:=by
 intro k hk
 obtain ⟨r,t,ht⟩:=Yu h k hk
 have key:=Ya k [r] [] t ht
 cases hc:k.col zT 1 with
 | nil=>rfl
 | cons b bs =>
   obtain ⟨_,r2,h2,_⟩:=key b (by
     rw [show ((([r]:List (List Int)).length:Nat):Int)=1 from rfl,hc]
     exact List.mem_cons_self ..)
   simp at h2
theorem JB {α : Type} {p:Nat → α → Bool}:∀ {l:List α} {n:Nat},allI p l n=true→∀ x∈l,∃ i,p i x=true
 | [],_,_,x,hx=>by cases hx
 | y::l,n,h,x,hx=>by
   simp only [allI,Bool.and_eq_true] at h
   rcases List.mem_cons.1 hx with rfl | hx
   · exact ⟨n,h.1⟩
   · exact JB h.2 x hx
theorem Ar (h:wF c=true):∀ t∈c.tables,1≤t.qO.length:=fun t ht=>by
 unfold wF at h
 rw [Bool.and_eq_true] at h
 obtain ⟨i,hi⟩:=JB h.2 t ht
 simp only [rowOk,aS,jw,Bool.and_eq_true,decide_eq_true_eq] at hi
 omega
theorem AZ (h:wF c=true) {ks:List Int} (hk:ks.all (wB c)=true) (h0:1≤ks.length):0<(rowsOf c ks).length:=by
 cases ks with
 | nil=>simp at h0
 | cons k ks =>
   rw [List.all_cons,Bool.and_eq_true] at hk
   have h1:=hk.1
   simp only [wB,jw,Bool.and_eq_true,decide_eq_true_eq] at h1
   have hl:k.toNat<c.tables.length:=by omega
   have hc:=Ar h c.tables[k.toNat] (List.getElem_mem hl)
   unfold rowsOf
   rw [List.flatMap_cons,List.length_append,List.getElem?_eq_getElem hl]
   simp only [Option.map_some,Option.getD_some,Tab.types,List.length_map]
   omega
theorem V4 {p:PL} {l:List Int} (hc:wF c=true) (h:PE.ZA c [] p=some l):jU c p.tables=(rowsOf c p.tables,true)∧0<(rowsOf c p.tables).length∧l.length=p.items.length∧p.names.length=l.length:=by
 have hf:=(JJ h).1
 have hl:=Yg h
 unfold PL.ok PL.form at hf
 simp only [Bool.and_eq_true,decide_eq_true_eq] at hf
 obtain ⟨⟨hf,_⟩,hr⟩:=hf
 refine ⟨?_,AZ hc hr hf.1,hl,by omega⟩
 unfold jU
 rw [if_pos hr]
end
end Go.Proofs.YtolhegocbkckdaaGreat

namespace Go.Proofs.YtolhegocbkckdaaGreat
open Go
set_option linter.unusedSimpArgs false
set_option linter.unusedVariables false
theorem rT (c:jy) (hc:c.wt≤1048576) (p:PL) (hw:qV p.v≤1048576):FJ Tryz.prog 24 c p:=fV c p hc hw fun k hk=>Ka c hc k (Nat.le_trans (PL.jq hk) hw)
theorem fB (c:jy) (hc:c.wt≤1048576) (p:PL) (hw:qV p.v≤1048576):FJ Tryz.prog 7 c p:=fA c p hc hw fun k hk=>Kc c hc k (Nat.le_trans (PL.jq hk) hw)
theorem AQ:bM []:=fun r h=>by cases h
theorem FJ.nil {g:FuncId} {c:jy} {p:PL} (h:FJ Tryz.prog g c p) (hw:qV p.v≤1048576) (t:S):VCalls Tryz.prog g [c.zF,.zl,p.v] t (fun v t'=>v=iw (PE.ZA c [] p)∧t'=t):=VCalls.forget (by
 have e1:c.zF.forget=c.zF:=vB _ (zG (aj _) rfl)
 have e2:p.v.forget=p.v:=vB _ (PL.plain p)
 rw [show List.map V.forget [c.zF,.zl,p.v]=[c.zF,jH [],p.v] by simp [e1,e2,jH,V.forget]]
 exact h [] (by simp;omega) AQ t)
def JC (c:jy) (p:PL):Bool:=wF c&&(decide (PE.yU (fun a b=>max a b) p≤24)&&(decide (PE.yU (fun a b=>a+b) p≤200)&&(PE.ZA c [] p).isSome))
theorem Qo (a b:Nat) (s:S):VCalls Tryz.prog 17 [.int .i64 a,.int .i64 b] s (fun v s'=>v = .bool (decide (a≤24)&&decide (b≤200))∧s'=s):=by
 rw [show decide (a≤24)=decide ((a:Int)≤24) from decide_eq_decide.2 (by omega),show decide (b≤200)=decide ((b:Int)≤200) from decide_eq_decide.2 (by omega)]
 refine zi.pure Tryz.func17 rfl (by kernel_rfl) (by simp) ?_
 repeat' first|(refine zf ?_;first|(refine zq.nil ?_)|(refine kG ?_;first|(refine zq.gT rfl rfl rfl ?_)|(refine zq.gF rfl rfl rfl ?_)|(refine zq.gC rfl rfl rfl (fun h=>?_) (fun h=>?_)))|(refine zq.ev zx rfl ?_))|(refine zH ?_;first|(refine WL.seq ?_)|(refine WL.region (by kernel_rfl) ?_)|(refine WL.ret ?_))|(refine zw ?_)|(refine zh.r1 (r := .tmp 4) (.inl rfl) (zn.tmp rfl) ?_)|(refine zX.mk ?_)
 all_goals (simp_all <;> (intros;omega))
theorem r9 (c:jy) (p:PL) (hc:c.wt≤1048576) (hw:qV p.v≤1048576) (s:S):VCalls Tryz.prog 8 [c.zF,p.v] s (fun v s'=>v = .bool (JC c p)∧s'=s):=by
 unfold JC
 have hC:=fun t=>fJ c hc t
 have hD:=fun t=>fQ p hw t
 have hZ:=fun t=>gL p hw t
 have hP:=fun t=>(rT c hc p hw).nil hw t
 generalize PE.yU (fun a b=>max a b) p=d at hD ⊢
 generalize PE.yU (fun a b=>a+b) p=z at hZ ⊢
 cases h1:wF c <;> rw [h1] at hC
 · skip
   refine zi.pure Tryz.func8 rfl (by kernel_rfl) (by simp) ?_
   repeat' first|(refine zf ?_;first|(refine zq.nil ?_)|(refine kG ?_;first|(refine zq.gF rfl rfl rfl ?_))|(refine zq.ev zx rfl ?_)|(refine qW ?_;refine zq.box rfl rfl rfl rfl ?_)|(refine zo ?_;first|(refine zq.ans (zk.zm zx rfl rfl rfl rfl) ?_))|(refine zy 9 ?_;first|(refine zq.ans (zk.ze rfl rfl rfl (Eb) (hC _)) ?_)))|(refine zH ?_;first|(refine WL.seq ?_)|(refine WL.region (by kernel_rfl) ?_)|(refine WL.ret ?_)|(refine zu ?_;first|(refine WL.qb rfl ?_)))|(refine zw ?_)|(refine zZ ?_)|(refine zh.r1 (r := .tmp 4) (.inl rfl) (zn.tmp rfl) ?_)|(refine zX.mk ?_)
   rfl
 by_cases h2:d≤24
 case neg =>
   have h2':¬ (d:Int)≤24:=by omega
   rw [decide_eq_false h2]
   refine zi.pure Tryz.func8 rfl (by kernel_rfl) (by simp) ?_
   repeat' first|(refine zf ?_;first|(refine zq.nil ?_)|(refine kG ?_;first|(refine zq.gT rfl rfl rfl ?_)|(refine zq.gF rfl rfl rfl ?_)|(refine zq.gD true rfl rfl rfl ?_ ?_;(focus (first|(simp <;> omega)))))|(refine zq.ev zx rfl ?_)|(refine qW ?_;refine zq.box rfl rfl rfl rfl ?_)|(refine zo ?_;first|(refine zq.ans (zk.zm zx rfl rfl rfl rfl) ?_))|(refine zy 10 ?_;first|(refine zq.ans (zk.ze rfl rfl rfl (Y0) (hD _)) ?_))|(refine zy 9 ?_;first|(refine zq.ans (zk.ze rfl rfl rfl (Eb) (hC _)) ?_)))|(refine zH ?_;first|(refine WL.seq ?_)|(refine WL.region (by kernel_rfl) ?_)|(refine WL.ret ?_)|(refine zu ?_;first|(refine WL.qb rfl ?_)))|(refine zw ?_)|(refine zZ ?_)|(refine zh.r1 (r := .tmp 4) (.inl rfl) (zn.tmp rfl) ?_)|(refine zX.mk ?_)
   rfl
 have h2':(d:Int)≤24:=by omega
 rw [decide_eq_true h2]
 by_cases h3:z≤200
 case neg =>
   have h3':¬ (z:Int)≤200:=by omega
   rw [decide_eq_false h3]
   refine zi.pure Tryz.func8 rfl (by kernel_rfl) (by simp) ?_
   repeat' first|(refine zf ?_;first|(refine zq.nil ?_)|(refine kG ?_;first|(refine zq.gT rfl rfl rfl ?_)|(refine zq.gD false rfl rfl rfl ?_ ?_;(focus (first|(simp <;> omega)))))|(refine zq.ev zx rfl ?_)|(refine qW ?_;refine zq.box rfl rfl rfl rfl ?_)|(refine zo ?_;first|(refine zq.ans (zk.zm zx rfl rfl rfl rfl) ?_))|(refine zy 10 ?_;first|(refine zq.ans (zk.ze rfl rfl rfl (Y0) (hD _)) ?_))|(refine zy 11 ?_;first|(refine zq.ans (zk.ze rfl rfl rfl (BD) (hZ _)) ?_))|(refine zy 9 ?_;first|(refine zq.ans (zk.ze rfl rfl rfl (Eb) (hC _)) ?_)))|(refine zH ?_;first|(refine WL.seq ?_)|(refine WL.region (by kernel_rfl) ?_)|(refine WL.ret ?_)|(refine zu ?_;first|(refine WL.zJ rfl ?_ ?_;(focus (first|(simp <;> omega))))))|(refine zw ?_)|(refine zZ ?_)|(refine zh.r1 (r := .tmp 4) (.inl rfl) (zn.tmp rfl) ?_)|(refine zX.mk ?_)
   rfl
 have h3':(z:Int)≤200:=by omega
 rw [decide_eq_true h3]
 generalize PE.ZA c [] p=o at hP ⊢
 cases o
 all_goals
   refine zi.pure Tryz.func8 rfl (by kernel_rfl) (by simp) ?_
   repeat' first|(refine zf ?_;first|(refine zq.nil ?_)|(refine kG ?_;first|(refine zq.gT rfl rfl rfl ?_)|(refine zq.gD false rfl rfl rfl ?_ ?_;(focus (first|(simp <;> omega)))))|(refine zq.ev zx rfl ?_)|(refine qW ?_;refine zq.box rfl rfl rfl rfl ?_)|(refine zo ?_;first|(refine zq.ans (zk.zm zx rfl rfl rfl rfl) ?_))|(refine zy 10 ?_;first|(refine zq.ans (zk.ze rfl rfl rfl (Y0) (hD _)) ?_))|(refine zy 11 ?_;first|(refine zq.ans (zk.ze rfl rfl rfl (BD) (hZ _)) ?_))|(refine zy 24 ?_;first|(refine zq.ans (zk.ze rfl rfl rfl (Y2) (hP _)) ?_))|(refine zy 9 ?_;first|(refine zq.ans (zk.ze rfl rfl rfl (Eb) (hC _)) ?_)))|(refine zH ?_;first|(refine WL.seq ?_)|(refine WL.region (by kernel_rfl) ?_)|(refine WL.skip ?_)|(refine WL.ret ?_)|(refine zu ?_;first|(refine WL.zY rfl ?_ ?_;(focus (first|(simp <;> omega))))))|(refine zw ?_)|(refine zh.r1 (r := .tmp 4) (.inl rfl) (zn.tmp rfl) ?_)|(refine zX.mk ?_)
   rfl
theorem sj (c:jy) (p:PL) (hc:c.wt≤1048576) (hw:qV p.v≤1048576) (s:S):VCalls Tryz.prog 6 [c.zF,p.v] s (fun v s'=>v = .bool (JC c p)∧s'=s):=by
 unfold JC
 have hC:=fun t=>rP c hc t
 have hD:=fun t=>rO p hw t
 have hZ:=fun t=>ZJ p hw t
 have hP:=fun t=>(fB c hc p hw).nil hw t
 generalize PE.yU (fun a b=>max a b) p=d at hD ⊢
 generalize PE.yU (fun a b=>a+b) p=z at hZ ⊢
 have hM:=fun t=>Qo d z t
 rw [← Bool.and_assoc (decide (d≤24))]
 cases h1:wF c <;> rw [h1] at hC
 · skip
   refine zi.pure Tryz.func6 rfl (by kernel_rfl) (by simp) ?_
   repeat' first|(refine zf ?_;first|(refine zq.nil ?_)|(refine zq.ev zx rfl ?_)|(refine qW ?_;refine zq.box rfl rfl rfl rfl ?_))|(refine zH ?_;first|(refine WL.seq ?_)|(refine WL.region (by kernel_rfl) ?_)|(refine WL.drawn (id:=1) [0,1,2,3,4,5,6,7,8,9,10] [] [[],[0],[0,1],[0,1,2],[0,1,2,3],[0,1,2,3,4],[0,1,2,3],[0,1,2,3,4,5,6],[0,1,2,3,4,5,6,7],[0,1,2,3,4,5,6,7,8],[0,1,2,3,4,5,6,7,8,9]] (by kernel_rfl) (by kernel_rfl) ?_)|(refine WL.ret ?_)|(refine zu ?_;first|(refine WL.qb rfl ?_)))|(refine vN ?_;first|(refine zA.nil ?_)|(refine zA.fl rfl rfl (.ev zx rfl) ?_)|(refine zA.gF rfl rfl rfl rfl rfl ?_)|(refine qo rfl ?_;first|(refine zA.fl rfl rfl (zk.zm zx rfl rfl rfl rfl) ?_))|(refine qX 16 rfl ?_;first|(refine zA.fl rfl rfl (zk.ze rfl rfl rfl (ok16) (hC _)) ?_)))|(refine zw ?_)|(refine zZ ?_)|(refine zh.r1 (r := .tmp 4) (.inl rfl) (zn.tmp rfl) ?_)|(refine zX.mk ?_)
   rfl
 cases h2:(decide (d≤24)&&decide (z≤200)) <;> rw [h2] at hM
 · skip
   refine zi.pure Tryz.func6 rfl (by kernel_rfl) (by simp) ?_
   repeat' first|(refine zf ?_;first|(refine zq.nil ?_)|(refine zq.ev zx rfl ?_)|(refine qW ?_;refine zq.box rfl rfl rfl rfl ?_))|(refine zH ?_;first|(refine WL.seq ?_)|(refine WL.region (by kernel_rfl) ?_)|(refine WL.drawn (id:=1) [0,1,2,3,4,5,6,7,8,9,10] [] [[],[0],[0,1],[0,1,2],[0,1,2,3],[0,1,2,3,4],[0,1,2,3],[0,1,2,3,4,5,6],[0,1,2,3,4,5,6,7],[0,1,2,3,4,5,6,7,8],[0,1,2,3,4,5,6,7,8,9]] (by kernel_rfl) (by kernel_rfl) ?_)|(refine WL.ret ?_)|(refine zu ?_;first|(refine WL.qb rfl ?_)))|(refine vN ?_;first|(refine zA.nil ?_)|(refine zA.fl rfl rfl (.ev zx rfl) ?_)|(refine zA.gT rfl rfl rfl rfl rfl (.ev zx rfl) ?_)|(refine qo rfl ?_;first|(refine zA.fl rfl rfl (zk.zm zx rfl rfl rfl rfl) ?_)|(refine zA.gT rfl rfl rfl rfl rfl (zk.zm zx rfl rfl rfl rfl) ?_))|(refine qX 16 rfl ?_;first|(refine zA.fl rfl rfl (zk.ze rfl rfl rfl (ok16) (hC _)) ?_))|(refine qX 17 rfl ?_;first|(refine zA.gT rfl rfl rfl rfl rfl (zk.ze rfl rfl rfl (G6) (hM _)) ?_))|(refine qX 18 rfl ?_;first|(refine zA.gT rfl rfl rfl rfl rfl (zk.ze rfl rfl rfl (Ec) (hD _)) ?_))|(refine qX 19 rfl ?_;first|(refine zA.gT rfl rfl rfl rfl rfl (zk.ze rfl rfl rfl (Ed) (hZ _)) ?_)))|(refine zw ?_)|(refine zZ ?_)|(refine zh.r1 (r := .tmp 4) (.inl rfl) (zn.tmp rfl) ?_)|(refine zX.mk ?_)
   rfl
 generalize PE.ZA c [] p=o at hP ⊢
 cases o
 all_goals
   refine zi.pure Tryz.func6 rfl (by kernel_rfl) (by simp) ?_
   repeat' first|(refine zf ?_;first|(refine zq.nil ?_)|(refine zq.ev zx rfl ?_)|(refine qW ?_;refine zq.box rfl rfl rfl rfl ?_)|(refine zo ?_;first|(refine zq.ans (zk.zm zx rfl rfl rfl rfl) ?_))|(refine zy 7 ?_;first|(refine zq.ans (zk.ze rfl rfl rfl (AA) (hP _)) ?_)))|(refine zH ?_;first|(refine WL.seq ?_)|(refine WL.region (by kernel_rfl) ?_)|(refine WL.drawn (id:=1) [0,1,2,3,4,5,6,7,8,9,10] [] [[],[0],[0,1],[0,1,2],[0,1,2,3],[0,1,2,3,4],[0,1,2,3],[0,1,2,3,4,5,6],[0,1,2,3,4,5,6,7],[0,1,2,3,4,5,6,7,8],[0,1,2,3,4,5,6,7,8,9]] (by kernel_rfl) (by kernel_rfl) ?_)|(refine WL.skip ?_)|(refine WL.ret ?_)|(refine zu ?_;first|(refine WL.qQ rfl ?_)))|(refine vN ?_;first|(refine zA.nil ?_)|(refine zA.fl rfl rfl (.ev zx rfl) ?_)|(refine zA.gT rfl rfl rfl rfl rfl (.ev zx rfl) ?_)|(refine qo rfl ?_;first|(refine zA.fl rfl rfl (zk.zm zx rfl rfl rfl rfl) ?_)|(refine zA.gT rfl rfl rfl rfl rfl (zk.zm zx rfl rfl rfl rfl) ?_))|(refine qX 16 rfl ?_;first|(refine zA.fl rfl rfl (zk.ze rfl rfl rfl (ok16) (hC _)) ?_))|(refine qX 17 rfl ?_;first|(refine zA.gT rfl rfl rfl rfl rfl (zk.ze rfl rfl rfl (G6) (hM _)) ?_))|(refine qX 18 rfl ?_;first|(refine zA.gT rfl rfl rfl rfl rfl (zk.ze rfl rfl rfl (Ec) (hD _)) ?_))|(refine qX 19 rfl ?_;first|(refine zA.gT rfl rfl rfl rfl rfl (zk.ze rfl rfl rfl (Ed) (hZ _)) ?_)))|(refine zw ?_)|(refine zh.r1 (r := .tmp 4) (.inl rfl) (zn.tmp rfl) ?_)|(refine zX.mk ?_)
   rfl
end Go.Proofs.YtolhegocbkckdaaGreat

namespace Go.Proofs.YtolhegocbkckdaaGreat
open Go
set_option linter.unusedSimpArgs false
set_option linter.unusedVariables false
theorem Hold.sv {s:S} {H:List BE} {b n:Nat} {x:PE} (c:Bool) (h:Hold s b (.blk n x.v::H)):Hold s b (.blk n (PE.sv (x,c))::H) :=
 h.Gn (by simp only [PE.sv,PE.v,cv,bV,Nat.add_zero]) (PE.Ac _) (by simp only [PE.sv,PE.v,Bd,UG,UH,YG,Bf,UF])
def Sj (P:Program) (g:FuncId) (caps:List V) (d d':V):Prop:=∀ t:S,VCalls P g (d::caps) t (fun v t'=>Own2 d' v t')
def AX (caps:List V):Prop:=∀ H,ZM H caps caps
end Go.Proofs.YtolhegocbkckdaaGreat

namespace Go.Proofs.YtolhegocbkckdaaGreat
open Go
set_option linter.unusedSimpArgs false
set_option linter.unusedVariables false
theorem AX.nil:AX []:=fun _ => .nil
end Go.Proofs.YtolhegocbkckdaaGreat
