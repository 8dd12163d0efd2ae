/-
  Copies of plans' trees by the reference; the parts of plans.
  The reference's references that lead out of a tree: results that are appended to the caller's slice, over the books.
  Own work; no condition.
-/
import Derived.Test.YtolhegocbkckdaaGreatDCopy3
import Derived.Test.YtolhegocbkckdaaGreatMg10
import Derived.Test.YtolhegocbkckdaaGreatMg36
import Derived.Test.YtolhegocbkckdaaGreatDPFree
namespace Go.Proofs.YtolhegocbkckdaaGreat
open Go
set_option linter.unusedSimpArgs false
set_option linter.unusedVariables false
set_option maxHeartbeats 4000000 in
theorem V5 (e:PE):qV e.v≤1048576→Di Tryz.prog 66 e.v:=by
 induction e using PE.ind with
 | h e ih1 ih2 =>
   intro hw s
   have hh:Hold s s.next [] := .start _ _
   have Dc:=PE.wG e
   have l1:=xW PE.zF e.kids
   have l2:=xW PE.xu e.sub
   have hq1:=fun s=>yJ e.kids (by omega) (fun x hx=>ih1 x hx (Nat.le_trans (PE.vD hx) hw)) s
   refine zi.body Tryz.func66 rfl (by kernel_rfl) ?_
   repeat' first|(refine qW ?_;first|(refine zq.gZ hh rfl rfl ?_;intro s n hh))|(refine qj ?_;refine zq.kR zx hh rfl rfl ?_;intro s n hh)|(refine zU ?_;first|(refine zq.zN zx 0 hh rfl rfl rfl rfl rfl rfl rfl rfl rfl ?_;intro s hh)|(refine zq.zN zx 1 hh rfl rfl rfl rfl rfl rfl rfl rfl rfl ?_;intro s hh)|(refine zq.Bl zx 1 hh rfl rfl rfl rfl rfl rfl rfl rfl ?_;intro s hh))|(refine zy 33 ?_;refine zq.nC rfl rfl rfl U8 hh (.cons (.pl (xY e.kids)) .nil) (fun t=>hq1 t) (xY _) ?_;intro s n hh)|(refine zf ?_;first|(refine zq.nil ?_)|(refine zq.ev zx rfl ?_)|(refine zo ?_;first|(refine zq.ans (zk.zM zx 1 hh rfl rfl rfl rfl) ?_)|(refine zq.ans (zk.zM zx 2 hh rfl rfl rfl rfl) ?_)))|(refine zH ?_;first|(refine WL.seq ?_)|(refine WL.region (by kernel_rfl) ?_)|(refine WL.block ?_))|(refine zw ?_)
   rename Nat=>nk
   rename_i s6 RZ s5 nE RQ s4 nR Pm s3 hh3 s2 Da s1 OY s0 hh0
   refine WL.U0 1 9 8 rfl rfl rfl hh (fun s id hh=>?_)
   replace hh:=hh _ rfl _ rfl
   refine WL.yw (fun y:Nat × List V × List V=>e.sub.length - y.1) (fun y=>[(1,.ptr nE 0),(2,.ptr nR 0),(3,.ptr n 0),(4,.int .i64 (y.1:Int))])
     (fun y=>[.acc id 8 y.2.1 y.2.2,.cell n [.int .i64 e.kind,.int .i64 e.op,.bool e.nt,.int .i64 e.value.kind,.int .i64 e.value.num,.str e.value.text,.int .i64 e.up,.int .i64 e.pos,(kH nk (.sl 0 (e.kids.map PE.zF))).1,.sl id y.2.1],
       .cell nE [.int .i64 e.kind,.int .i64 e.op,.bool e.nt,.int .i64 e.value.kind,.int .i64 e.value.num,.str e.value.text,.int .i64 e.up,.int .i64 e.pos,.sl 0 (e.kids.map PE.zF),.sl 0 (e.sub.map PE.xu)],.cell nR [.int .i64 0,.int .i64 0,.bool false,.int .i64 0,.int .i64 0,.str [],.int .i64 0,.int .i64 0,.zl,.zl],.blk nk (.sl 0 (e.kids.map PE.zF))])
     (fun y=>y.1≤e.sub.length∧y.2.2=(e.sub.take y.1).map PE.xu) (0,[],[]) ⟨by simp,by simp⟩ ⟨rfl,rfl,rfl,rfl,trivial⟩ hh (by (repeat' first|(exact zK.nil)|(exact zK.refl _)|(refine' zK.p ?_ ?_;rotate_left 1;(focus (((repeat' first|(exact Pick.here)|(refine' Pick.there ?_));done)))))) (fun y s hI hh=>?_)
   obtain ⟨i,us,ds⟩:=y
   obtain ⟨hi,hd⟩:=hI
   dsimp only at hi hd hh ⊢
   have QD:=hh.XQ 0 rfl
   have hdl:ds.length=i:=by rw [hd];simp;omega
   rcases Nat.lt_or_ge i e.sub.length with hlt | hge
   · have hga : (e.sub.map PE.xu)[i]? = some (PL.v e.sub[i]) := by rw [List.getElem?_map, List.getElem?_eq_getElem hlt]; simp only [Option.map_some, PE.kX]
     have hst:(e.sub.take (i+1)).map PE.xu=ds++[PL.v e.sub[i]]:=by rw [hd,List.take_succ_eq_append_getElem hlt,List.map_append,List.map_cons,List.map_nil,PE.kX]
     have hwp:qV (PL.v e.sub[i])≤1048576:=Nat.le_trans (PE.jB (List.getElem_mem hlt)) hw
     have hE:=ZL e.sub[i] hwp (fun k hk=>ih2 _ (List.getElem_mem hlt) k hk (Nat.le_trans (PL.jq hk) hwp))
     generalize e.sub[i]=x at hga hst hE
     repeat' first|(refine zU ?_;first|(refine zq.zN zx 1 hh rfl rfl rfl rfl rfl rfl rfl rfl rfl ?_;intro s hh))|(refine ji ?_;first|(refine' zq.appH zx 1 rfl rfl rfl rfl rfl rfl rfl rfl rfl rfl hh ?_ ?_ (xU.Ev ?_ rfl) ?_;rotate_left 3 ;(focus (first|(apply wL.pl;(focus ((repeat' first|(exact xE.nil)|(refine' Cons.bp ?_;((repeat' first|(exact Pick.here));done))|(refine' xE.cons ?_ ?_));done))))) ;(focus ((repeat' first|(exact zS.nil)|(refine zS.ct rfl rfl ?_));done)) ;(focus (first | omega |(simp ;omega))) ;intro s hh))|(refine zy 101 ?_;refine zq.nC rfl rfl rfl HZ hh (.cons (.pl (PL.plain x)) .nil) (fun t=>hE t) (PL.plain _) ?_;intro s n hh)|(refine zf ?_;first|(refine zq.nil ?_)|(refine zq.ev zx rfl ?_)|(refine zo ?_;first|(refine zq.ans (zk.zM zx 2 hh rfl rfl rfl rfl) ?_))|(refine qx ?_;first|(refine zq.ans (zk.z8 zx rfl rfl rfl) ?_))|(refine xk ?_;first|(refine zq.ans (zk.add rfl rfl ?_) ?_;(focus (constructor <;> omega)))))|(refine zH ?_;first|(refine WL.seq ?_)|(refine WL.region (by kernel_rfl) ?_)|(refine WL.drawn (id:=7) [0,1,2,3,4,5,6,7,8,9,10,11] [7,9,11] [[],[0],[],[2],[],[2,3,4],[2,3,4,5],[2,3,4,5,6],[2,3,4,5,6,7],[0,1,2,3,4,5,6,7,8],[0,1,2,3,4,5,6,7,8,9],[0,1,2,3,4,5,6,7,8,9,10]] (by kernel_rfl) (by kernel_rfl) ?_)|(refine WL.block ?_)|(refine WL.skip ?_)|(refine zu ?_;first|(refine WL.zJ rfl ?_ ?_;(focus (first|(simp <;> omega))))))|(refine vN ?_;first|(refine zA.nil ?_)|(refine zA.fl rfl rfl (.ev zx rfl) ?_)|(refine zA.fl rfl rfl (zk.fD zx rfl rfl rfl rfl rfl rfl rfl rfl rfl) ?_)|(refine qo rfl ?_;first|(refine zA.fl rfl rfl (zk.zM zx 1 hh rfl rfl rfl rfl) ?_)|(refine zA.fl rfl rfl (zk.zM zx 2 hh rfl rfl rfl rfl) ?_))|(refine kQ rfl ?_;first|(refine zA.fl rfl rfl (zk.idx zx rfl rfl rfl rfl rfl hga rfl rfl) ?_))|(refine zA.iY rfl rfl rfl ?_))|(refine zw ?_)|(refine zQ ?_)|(refine And.intro ?_ ?_)|(exact xR.nil)|(refine xR.cons ?_ ?_)|(refine jG.fl rfl rfl (.ev zx rfl))|(refine jG.fl rfl rfl (zk.zM zx 2 hh rfl rfl rfl rfl))
     all_goals
       refine' kW.of ((i+1,_,ds++[x.v])) ?_ hh ?_ ?_ ?_
       rotate_left 1
       · repeat' first | exact qz.nil |(refine qz.mk rfl ?_ ?_) | rfl |(simp [hst] <;> fail)|(simp [hst];omega)
       · first|((repeat' first|(exact zK.nil)|(exact zK.refl _)|(refine' zK.p ?_ ?_;rotate_left 1;(focus (((repeat' first|(exact Pick.here)|(refine' Pick.there ?_));done)))));done)|(dsimp only;simp only [List.map_append,List.map_cons,List.map_nil];(repeat' first|(exact zK.nil)|(exact zK.refl _)|(refine' zK.p ?_ ?_;rotate_left 1;(focus (((repeat' first|(exact Pick.here)|(refine' Pick.there ?_));done)))));done)|(dsimp only;simp only [List.map_append,List.map_cons,List.map_nil,hst];(repeat' first|(exact zK.nil)|(exact zK.refl _)|(refine' zK.p ?_ ?_;rotate_left 1;(focus (((repeat' first|(exact Pick.here)|(refine' Pick.there ?_));done)))));done)
       · dsimp only;repeat' first | omega | assumption |(refine And.intro ?_ ?_) | rfl |(simp [hst] <;> fail)|(simp [hst];omega)|(simp_all [hst] <;> fail)|(simp_all [hst];omega)
       · dsimp only;first | omega |(simp;omega)|(simp_all;omega)
   have e1:i=e.sub.length:=by omega
   subst e1
   rw [List.take_length] at hd
   subst hd
   repeat' first|(refine zU ?_;first|(refine zq.zN zx 3 hh rfl rfl rfl rfl rfl ?_ rfl rfl rfl ?_;(focus (repeat' first|(exact rfl)|(refine kS (uj _ _ _) ?_)|(refine kS rfl ?_))) ;intro s hh))|(refine zf ?_;first|(refine zq.nil ?_)|(refine zq.ev zx rfl ?_)|(refine zo ?_;first|(refine zq.ans (zk.zM zx 1 hh rfl rfl rfl rfl) ?_)|(refine zq.ans (zk.zM zx 2 hh rfl rfl rfl rfl) ?_))|(refine qx ?_;first|(refine zq.ans (zk.z8 zx rfl rfl rfl) ?_)))|(refine zH ?_;first|(refine WL.seq ?_)|(refine WL.region (by kernel_rfl) ?_)|(refine WL.exit ?_)|(refine WL.ret ?_)|(refine zu ?_;first|(refine WL.zY rfl ?_ ?_;(focus (first|(simp <;> omega))))))|(refine zw ?_)|(refine zC ?_)|(refine zV ?_)|(refine ko ?_)|(refine' zh.r1 (r := .cell 2 48) (.inl rfl) ?_ ?_;rotate_left 1;(focus (first|(exact zn.xM 3 zx hh rfl rfl rfl rfl))))
   exact Own2.Ej hh (by ((repeat' first|(exact xE.nil)|(exact Cons.jo)|(exact Cons.zl)|(refine' Cons.bp ?_;((repeat' first|(exact Pick.here)|(refine' Pick.there ?_));done))|(refine' Cons.ap ?_;((repeat' first|(exact Pick.here)|(refine' Pick.there ?_));done))|(exact Cons.blk 0 rfl rfl rfl)|(exact Cons.blk 1 rfl rfl rfl)|(exact Cons.blk 2 rfl rfl rfl)|(exact Cons.blk 3 rfl rfl rfl)|(exact Cons.blk 4 rfl rfl rfl)|(exact Cons.blk 5 rfl rfl rfl)|(exact Cons.pl rfl rfl)|(exact Cons.pl (by assumption) (by assumption))|(refine' xE.cons ?_ ?_)|(exact xE.sK rfl rfl)|(exact xE.sK (by assumption) (by assumption))|(refine' Cons.agg ?_));done))
theorem Ke (xs:List PE) (hw:qV (.sl 0 (xs.map PE.zF))≤1048576):Di Tryz.prog 33 (.sl 0 (xs.map PE.zF)) :=
 yJ xs (Nat.le_trans (xW PE.zF xs) hw) fun x hx=>V5 x (Nat.le_trans (by have h1:=uw (f:=PE.zF) hx;rwa [PE.qK] at h1) hw)
theorem PL.Uz (p:PL):qV (.sl 0 (p.parts.map PE.zF))≤qV p.v:=by
 rw [VA]
 have h:=PL.vO p
 have e:∀ l:List PE,bY (fun x=>qV (PE.v x)) l=kM (fun k=>1+qV (PE.v k)) l:=fun l=>by
   simp only [bY,kM]
   induction l with
   | nil=>rfl
   | cons x l ih=>simp only [List.length_cons,List.map_cons,List.sum_cons] at *;omega
 rw [e]
 exact h
theorem Qp (p:PL) (hw:qV p.v≤1048576) (s:S):VCalls Tryz.prog 12 [p.v] s (fun v t=>Own2 (.sl 0 (p.parts.map PE.zF)) v t):=by
 have hh:Hold s s.next [] := .start _ _
 have hP:=fun t=>gY p hw t
 have hq:=Ke p.parts (Nat.le_trans (PL.Uz p) hw)
 refine zi.body Tryz.func12 rfl (by kernel_rfl) ?_
 repeat' first|(refine qW ?_;first|(refine zq.gZ hh rfl rfl ?_;intro s n hh))|(refine zy 33 ?_;refine zq.nC rfl rfl rfl U8 hh (.cons (.pl (xY _)) .nil) (fun t=>hq t) (xY _) ?_;intro s n hh)|(refine zf ?_;first|(refine zq.nil ?_)|(refine zq.ev zx rfl ?_)|(refine zo ?_;first|(refine zq.ans (zk.zM zx 0 hh rfl rfl rfl rfl) ?_))|(refine zy 29 ?_;first|(refine zq.ans (zk.ze rfl rfl rfl (Ef) (hP _)) ?_)))|(refine zH ?_;first|(refine WL.seq ?_)|(refine WL.region (by kernel_rfl) ?_)|(refine WL.ret ?_))|(refine zw ?_)|(refine zh.r1 (r := .tmp 2) (.inl rfl) (zn.tmp rfl) ?_)
 exact Own2.Ej hh (by ((repeat' first|(exact xE.nil)|(exact Cons.jo)|(exact Cons.zl)|(refine' Cons.bp ?_;((repeat' first|(exact Pick.here)|(refine' Pick.there ?_));done))|(refine' Cons.ap ?_;((repeat' first|(exact Pick.here)|(refine' Pick.there ?_));done))|(exact Cons.blk 0 rfl rfl rfl)|(exact Cons.blk 1 rfl rfl rfl)|(exact Cons.blk 2 rfl rfl rfl)|(exact Cons.blk 3 rfl rfl rfl)|(exact Cons.blk 4 rfl rfl rfl)|(exact Cons.blk 5 rfl rfl rfl)|(exact Cons.pl rfl rfl)|(exact Cons.pl (by assumption) (by assumption))|(refine' xE.cons ?_ ?_)|(exact xE.sK rfl rfl)|(exact xE.sK (by assumption) (by assumption))|(refine' Cons.agg ?_));done))
end Go.Proofs.YtolhegocbkckdaaGreat

namespace Go.Proofs.YtolhegocbkckdaaGreat
open Go
set_option linter.unusedSimpArgs false
set_option linter.unusedVariables false
section
variable {P:Program} {N:Nat} {ops:Array Oper} {l:List Oper} {K:Kn→S→Prop} {L:Kn} {s:S} {d:Nat} {ty:TypeId} {p:String} {a:Array Edge} {H H1:List BE}
end
def oU (e:PE) (u:Int):List Bind:=if 0≤u∧u≤1000000 then e.col zT u else []
theorem Kg (e:PE) (hw:qV e.v≤1048576) (u:Int) (s:S):VCalls Tryz.prog 13 [e.v,.int .i64 u] s (fun v t=>Own2 (binds (oU e u)) v t):=by
 have hh:Hold s s.next [] := .start _ _
 unfold oU
 refine zi.body Tryz.func13 rfl (by kernel_rfl) ?_
 by_cases h0:u<0
 · rw [if_neg (by omega)]
   repeat' first|(refine qW ?_;first|(refine zq.gZ hh rfl rfl ?_;intro s n hh))|(refine zf ?_;first|(refine zq.nil ?_)|(refine kG ?_;first|(refine zq.gF rfl rfl rfl ?_)|(refine zq.gD true rfl rfl rfl ?_ ?_;(focus (first|(exact decide_eq_true (by assumption))))))|(refine zq.ev zx rfl ?_))|(refine zH ?_;first|(refine WL.seq ?_)|(refine WL.region (by kernel_rfl) ?_)|(refine WL.ret ?_)|(refine zu ?_;first|(refine WL.qb rfl ?_)))|(refine zw ?_)|(refine zZ ?_)|(refine zh.r1 (r := .tmp 4) (.inl rfl) (zn.tmp rfl) ?_)
   exact Own2.Ej hh (by ((repeat' first|(exact xE.nil)|(exact xE.sK rfl rfl)|(exact Cons.pl rfl rfl)|(exact Cons.jo)|(exact Cons.zl)|(refine' Cons.bp ?_;((repeat' first|(exact Pick.here)|(refine' Pick.there ?_));done))|(refine' Cons.ap ?_;((repeat' first|(exact Pick.here)|(refine' Pick.there ?_));done))|(exact Cons.blk 0 rfl rfl rfl)|(exact Cons.blk 1 rfl rfl rfl)|(exact Cons.blk 2 rfl rfl rfl)|(exact Cons.blk 3 rfl rfl rfl)|(exact Cons.pl (by assumption) (by assumption))|(exact xE.sK (by assumption) (by assumption))|(refine' xE.cons ?_ ?_)|(refine' Cons.agg ?_));done))
 by_cases h1:1000000<u
 · rw [if_neg (by omega)]
   repeat' first|(refine qW ?_;first|(refine zq.gZ hh rfl rfl ?_;intro s n hh))|(refine zf ?_;first|(refine zq.nil ?_)|(refine kG ?_;first|(refine zq.gT rfl rfl rfl ?_)|(refine zq.gD false rfl rfl rfl ?_ ?_;(focus (first|(exact decide_eq_false (by assumption))))))|(refine zq.ev zx rfl ?_))|(refine zH ?_;first|(refine WL.seq ?_)|(refine WL.region (by kernel_rfl) ?_)|(refine WL.ret ?_)|(refine zu ?_;first|(refine WL.zJ rfl ?_ ?_;(focus (first|(exact decide_eq_true (by assumption)))))))|(refine zw ?_)|(refine zZ ?_)|(refine zh.r1 (r := .tmp 4) (.inl rfl) (zn.tmp rfl) ?_)
   exact Own2.Ej hh (by ((repeat' first|(exact xE.nil)|(exact xE.sK rfl rfl)|(exact Cons.pl rfl rfl)|(exact Cons.jo)|(exact Cons.zl)|(refine' Cons.bp ?_;((repeat' first|(exact Pick.here)|(refine' Pick.there ?_));done))|(refine' Cons.ap ?_;((repeat' first|(exact Pick.here)|(refine' Pick.there ?_));done))|(exact Cons.blk 0 rfl rfl rfl)|(exact Cons.blk 1 rfl rfl rfl)|(exact Cons.blk 2 rfl rfl rfl)|(exact Cons.blk 3 rfl rfl rfl)|(exact Cons.pl (by assumption) (by assumption))|(exact xE.sK (by assumption) (by assumption))|(refine' xE.cons ?_ ?_)|(refine' Cons.agg ?_));done))
 · rw [if_pos ⟨by omega, by omega⟩]
   have hE:=fun t=>VL e hw u t (by omega) (by omega)
   repeat' first|(refine qW ?_;first|(refine zq.gZ hh rfl rfl ?_;intro s n hh))|(refine zy 34 ?_;refine zq.Gy rfl rfl Vr hh ?_ (hE) (JQ _) ?_;(focus ((repeat' first|(exact ZM.nil)|(refine ZM.cons ?_ ?_)|(refine rX.pl ?_;(focus (first|(rfl)|(exact PE.eu _)))));done)) ;intro s n hh)|(refine zf ?_;first|(refine zq.nil ?_)|(refine kG ?_;first|(refine zq.gT rfl rfl rfl ?_)|(refine zq.gD false rfl rfl rfl ?_ ?_;(focus (first|(exact decide_eq_false (by assumption))))))|(refine zq.ev zx rfl ?_)|(refine zo ?_;first|(refine zq.ans (zk.zM zx 0 hh rfl rfl rfl rfl) ?_)))|(refine zH ?_;first|(refine WL.seq ?_)|(refine WL.region (by kernel_rfl) ?_)|(refine WL.skip ?_)|(refine WL.ret ?_)|(refine zu ?_;first|(refine WL.zY rfl ?_ ?_;(focus (first|(exact decide_eq_false (by assumption)))))))|(refine zw ?_)|(refine zh.r1 (r := .tmp 4) (.inl rfl) (zn.tmp rfl) ?_)
   exact Own2.Ej hh (by ((repeat' first|(exact xE.nil)|(exact xE.sK rfl rfl)|(exact Cons.pl rfl rfl)|(exact Cons.jo)|(exact Cons.zl)|(refine' Cons.bp ?_;((repeat' first|(exact Pick.here)|(refine' Pick.there ?_));done))|(refine' Cons.ap ?_;((repeat' first|(exact Pick.here)|(refine' Pick.there ?_));done))|(exact Cons.blk 0 rfl rfl rfl)|(exact Cons.blk 1 rfl rfl rfl)|(exact Cons.blk 2 rfl rfl rfl)|(exact Cons.blk 3 rfl rfl rfl)|(exact Cons.pl (by assumption) (by assumption))|(exact xE.sK (by assumption) (by assumption))|(refine' xE.cons ?_ ?_)|(refine' Cons.agg ?_));done))
end Go.Proofs.YtolhegocbkckdaaGreat
