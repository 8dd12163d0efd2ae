/-
  Typed trees of plans drawn from a string of bytes: conditions.
  Matches, StarOf and Find, of the program and of the reference.
  TypesOf, Matches and StarOf: results in new memory, and the laws.
  Own work; no condition.
-/
import Derived.Test.YtolhegocbkckdaaGreatMg25
import Derived.Test.YtolhegocbkckdaaGreatMg15
import Derived.Test.YtolhegocbkckdaaGreatMg10
namespace Go.Proofs.YtolhegocbkckdaaGreat
open Go
set_option linter.unusedSimpArgs false
set_option linter.unusedVariables false
set_option maxHeartbeats 8000000 in
theorem lW {b:V} (hb:Bytes b) {ts:List Tab} {env:List (List Int)} {deep:Int} {w u W:Nat} (hd:1≤deep∧deep≤100) (hW:4*(w+1)+u+9≤W)
   (hk:∀ ty m:Int,0≤m∧m≤5→PE.KD Tryz.prog 115 b [wW ts,bf env,.int .i64 ty,.int .i64 deep,.int .i64 m] (fun es=>es.length=m.toNat∧∀ e∈es,qV e.v≤w))
   (hp:2≤deep→∀ ty:Int,PL.D Tryz.prog 69 b [wW ts,bf env,.sl 0 [.int .i64 ty],.int .i64 (deep - 2)] (fun p=>qV p.v≤u)) :
   PE.D Tryz.prog 116 b [wW ts,bf env,.int .i64 deep] (fun e=>qV e.v≤W):=by
 intro s H l i h hi hh
 replace hh:Hold s s.next (.cell l (vw b i h)::H):=hh
 refine zi.jX Tryz.func116 rfl (by kernel_rfl) ?_
 by_cases hz:deep≤1
 · skip
   repeat' first|(refine qW ?_;first|(refine zq.gZ hh rfl rfl ?_;intro s n hh))|(refine qj ?_;refine zq.kR zx hh rfl rfl ?_;intro s n hh)|(refine zU ?_;first|(refine zq.zN zx 2 hh rfl rfl rfl rfl rfl rfl rfl rfl rfl ?_;intro s hh))|(refine zy 38 ?_;first|(refine zq.qc 0 rfl rfl vE hh rfl rfl ?_ (zP hb (by omega)) ?_;(focus (first | assumption | omega)) ;intro s x i h hq hi hh ;try dsimp only)|(refine zq.qc 2 rfl rfl vE hh rfl rfl ?_ (zP hb (by omega)) ?_;(focus (first | assumption | omega)) ;intro s x i h hq hi hh ;try dsimp only))|(refine zy 68 ?_;first|(refine zq.qc 0 rfl rfl wU hh rfl rfl ?_ (qg hb (by omega)) ?_;(focus (first | assumption | omega)) ;intro s x i h hq hi hh ;try dsimp only))|(refine zy 115 ?_;first|(refine zq.jF 0 rfl rfl Ay hh (hk _ _ (by omega)) .nil rfl rfl ?_ ?_;(focus (first | assumption | omega)) ;intro s y i h hq hi hh ;try dsimp only [List.cons_append,List.nil_append] at hh))|(refine zf ?_;first|(refine zq.nil ?_)|(refine' zq.ans (v := .agg _) (zk.jV zx rfl rfl rfl rfl ?_) ?_;rotate_left 1;(focus ((repeat' first|(exact Fills.nil)|(refine' Fills.cons rfl rfl rfl rfl ?_));done)))|(refine zq.ev zx rfl ?_)|(refine zo ?_;first|(refine zq.ans (zk.zM zx 2 hh rfl rfl rfl rfl) ?_))|(refine xk ?_;first|(refine zq.ans (zk.add rfl rfl ?_) ?_;(focus (constructor <;> omega)))))|(refine zH ?_;first|(refine WL.seq ?_)|(refine WL.region (by kernel_rfl) ?_)|(refine WL.drawn (id:=6) [0,3,4,5,6,1,2,7,8,9] [1,7,9] [[],[0],[0,1],[],[],[],[],[0,1,3,4,5,6],[0,1,2,3,4,5,6,7],[0,1,2,3,4,5,6,7,8]] (by kernel_rfl) (by kernel_rfl) ?_)|(refine WL.drawn (id:=14) [0,1,2,3,4,5,6,7,8,9,10,11] [7,9,11] [[],[],[],[],[],[],[],[6],[6,7],[1,2,3,4,5,6,7,8],[0,1,2,3,4,5,6,7,8,9],[0,1,2,3,4,5,6,7,8,9,10]] (by kernel_rfl) (by kernel_rfl) ?_)|(refine WL.drawn (id:=21) [0,3,4,5,6,7,1,2,8,9,10] [1,8,10] [[],[0],[0,1],[],[],[],[],[],[0,1,3,4,5,6,7],[0,1,2,3,4,5,6,7,8],[0,1,2,3,4,5,6,7,8,9]] (by kernel_rfl) (by kernel_rfl) ?_)|(refine WL.block ?_)|(refine WL.skip ?_)|(refine WL.ret ?_)|(refine zu ?_;first|(refine WL.qb rfl ?_)|(refine WL.zY rfl ?_ ?_;(focus (first|(simp <;> omega))))|(refine WL.cond rfl (fun h=>?_) (fun h=>?_))))|(refine vN ?_;first|(refine zA.nil ?_)|(refine' zA.fl (v := .agg _) rfl rfl (zk.jV zx rfl rfl rfl rfl ?_) ?_;rotate_left 1;(focus ((repeat' first|(exact Fills.nil)|(refine' Fills.cons rfl rfl rfl rfl ?_));done)))|(refine zA.fl rfl rfl (.ev zx rfl) ?_)|(refine qo rfl ?_;first|(refine zA.fl rfl rfl (zk.zM zx 2 hh rfl rfl rfl rfl) ?_))|(refine yj rfl ?_;first|(refine zA.fl rfl rfl (zk.add rfl rfl ?_) ?_;(focus (constructor <;> omega))))|(refine zA.iY rfl rfl rfl ?_))|(refine zw ?_)|(refine zZ ?_)|(refine zQ ?_)|(refine zB ?_)|(refine' zh.r1 (r := .cell 8 48) (.inl rfl) ?_ ?_;rotate_left 1;(focus (first|(exact zn.xM 2 zx hh rfl rfl rfl rfl))))|(refine And.intro ?_ ?_)|(exact xR.nil)|(refine xR.cons ?_ ?_)|(refine jG.fl rfl rfl (.ev zx rfl))|(refine jG.fl rfl rfl (zk.zM zx 2 hh rfl rfl rfl rfl))|(refine jG.fl rfl rfl (zk.add rfl rfl ?_);(focus (constructor <;> omega)))
   all_goals
     first
     | skip
       replace hh:=hh.vR
       apply jl.fin (y:=(PE.mk _ _ _ ⟨_,_,_⟩ _ _ y.1 [],f2 y.2 (0,0))) (hh:=hh)
       case hv=>rfl
       case hi=>assumption
       case hs =>
         dsimp only [PE.ob,List.cons_append,List.nil_append]
         (repeat' first|(exact zK.nil)|(exact zK.refl _)|(refine' zK.p ?_ ?_;rotate_left 1;(focus (((repeat' first|(exact Pick.here)|(refine' Pick.there ?_));done)))))
         (repeat' first|(exact zK.refl _)|(refine zK.drop ?_))
       case hp =>
         have g1:y.1.length≤4:=by have:=hq.1;omega
         have g2:=aM hq.2
         have g3:=Nat.mul_le_mul_right (w+1) g1
         dsimp only
         rw [PE.qC]
         simp only [PE.value,PE.kids,PE.sub,wK,List.length_nil]
         omega
 replace hp:=hp (by omega)
 repeat' first|(refine qW ?_;first|(refine zq.gZ hh rfl rfl ?_;intro s n hh))|(refine qj ?_;refine zq.kR zx hh rfl rfl ?_;intro s n hh)|(refine zU ?_;first|(refine zq.zN zx 2 hh rfl rfl rfl rfl rfl rfl rfl rfl rfl ?_;intro s hh)|(refine zq.zN zx 3 hh rfl rfl rfl rfl rfl rfl rfl rfl rfl ?_;intro s hh))|(refine kZ ?_;first|(refine zq.ans (d:=100) (zk.fD zx rfl rfl rfl rfl rfl rfl rfl rfl rfl) ?_)|(refine' zq.Z7 (d:=90) zx rfl rfl rfl rfl rfl rfl rfl rfl hh ?_ ?_ ?_;rotate_left 2 ;(focus ((repeat' first|(exact qw.nil)|(exact qm.qP rfl)|(refine' qm.op ?_;((repeat' first|(exact Pick.here)|(refine' Pick.there ?_));done))|(refine' qw.cons ?_ ?_)|(refine' qm.agg ?_));done)) ;(focus ((repeat' first|(exact jM.of rfl));done)) ;intro s n hh)|(refine' zq.Z7 (d:=104) zx rfl rfl rfl rfl rfl rfl rfl rfl hh ?_ ?_ ?_;rotate_left 2 ;(focus ((repeat' first|(exact qw.nil)|(exact qm.qP rfl)|(refine' qm.op ?_;((repeat' first|(exact Pick.here)|(refine' Pick.there ?_));done))|(refine' qw.cons ?_ ?_)|(refine' qm.agg ?_));done)) ;(focus ((repeat' first|(exact jM.of rfl));done)) ;intro s n hh))|(refine zy 38 ?_;first|(refine zq.qc 0 rfl rfl vE hh rfl rfl ?_ (zP hb (by omega)) ?_;(focus (first | assumption | omega)) ;intro s x i h hq hi hh ;try dsimp only)|(refine zq.qc 2 rfl rfl vE hh rfl rfl ?_ (zP hb (by omega)) ?_;(focus (first | assumption | omega)) ;intro s x i h hq hi hh ;try dsimp only))|(refine zy 68 ?_;first|(refine zq.qc 0 rfl rfl wU hh rfl rfl ?_ (qg hb (by omega)) ?_;(focus (first | assumption | omega)) ;intro s x i h hq hi hh ;try dsimp only))|(refine zy 115 ?_;first|(refine zq.jF 0 rfl rfl Ay hh (hk _ _ (by omega)) .nil rfl rfl ?_ ?_;(focus (first | assumption | omega)) ;intro s y i h hq hi hh ;try dsimp only [List.cons_append,List.nil_append] at hh))|(refine zy 69 ?_;first|(refine zq.jF 0 rfl rfl BO hh (hp _) .nil rfl rfl ?_ ?_;(focus (first | assumption | omega)) ;intro s y i h hq hi hh ;try dsimp only [List.cons_append,List.nil_append] at hh)|(refine zq.jF 1 rfl rfl BO hh (hp _) .nil rfl rfl ?_ ?_;(focus (first | assumption | omega)) ;intro s y i h hq hi hh ;try dsimp only [List.cons_append,List.nil_append] at hh))|(refine zf ?_;first|(refine zq.nil ?_)|(refine' zq.ans (v := .agg _) (zk.jV zx rfl rfl rfl rfl ?_) ?_;rotate_left 1;(focus ((repeat' first|(exact Fills.nil)|(refine' Fills.cons rfl rfl rfl rfl ?_));done)))|(refine zq.ev zx rfl ?_)|(refine zo ?_;first|(refine zq.ans (zk.zM zx 2 hh rfl rfl rfl rfl) ?_))|(refine xk ?_;first|(refine zq.ans (zk.add rfl rfl ?_) ?_;(focus (constructor <;> omega)))|(refine zq.ans (zk.sub rfl rfl ?_) ?_;(focus (constructor <;> omega)))))|(refine zH ?_;first|(refine WL.seq ?_)|(refine WL.region (by kernel_rfl) ?_)|(refine WL.drawn (id:=6) [0,3,4,5,6,1,2,7,8,9] [1,7,9] [[],[0],[0,1],[],[],[],[],[0,1,3,4,5,6],[0,1,2,3,4,5,6,7],[0,1,2,3,4,5,6,7,8]] (by kernel_rfl) (by kernel_rfl) ?_)|(refine WL.drawn (id:=14) [0,1,2,3,4,5,6,7,8,9,10,11] [7,9,11] [[],[],[],[],[],[],[],[6],[6,7],[1,2,3,4,5,6,7,8],[0,1,2,3,4,5,6,7,8,9],[0,1,2,3,4,5,6,7,8,9,10]] (by kernel_rfl) (by kernel_rfl) ?_)|(refine WL.drawn (id:=17) [0,1,2,3,4,5,7,8,9,10,11,12,13,6,14,15,16,17] [6,14,15,17] [[],[],[],[],[],[],[1,2,3,4,5],[],[],[],[],[10],[],[12],[1,2,3,4,5,6,7,8,9,10,11,12,13],[1,2,3,4,5,6,7,8,9,10,11,12,13,14],[0,1,2,3,4,5,6,7,8,9,10,11,12,13,14,15],[0,1,2,3,4,5,6,7,8,9,10,11,12,13,14,15,16]] (by kernel_rfl) (by kernel_rfl) ?_)|(refine WL.drawn (id:=21) [0,3,4,5,6,7,1,2,8,9,10] [1,8,10] [[],[0],[0,1],[],[],[],[],[],[0,1,3,4,5,6,7],[0,1,2,3,4,5,6,7,8],[0,1,2,3,4,5,6,7,8,9]] (by kernel_rfl) (by kernel_rfl) ?_)|(refine WL.block ?_)|(refine WL.skip ?_)|(refine WL.ret ?_)|(refine zu ?_;first|(refine WL.qb rfl ?_)|(refine WL.zJ rfl ?_ ?_;(focus (first|(simp <;> omega))))|(refine WL.cond rfl (fun h=>?_) (fun h=>?_))))|(refine vN ?_;first|(refine zA.nil ?_)|(refine' zA.fl (v := .agg _) rfl rfl (zk.jV zx rfl rfl rfl rfl ?_) ?_;rotate_left 1;(focus ((repeat' first|(exact Fills.nil)|(refine' Fills.cons rfl rfl rfl rfl ?_));done)))|(refine zA.fl rfl rfl (.ev zx rfl) ?_)|(refine zA.fl rfl rfl (zk.fD zx rfl rfl rfl rfl rfl rfl rfl rfl rfl) ?_)|(refine qo rfl ?_;first|(refine zA.fl rfl rfl (zk.zM zx 2 hh rfl rfl rfl rfl) ?_))|(refine yj rfl ?_;first|(refine zA.fl rfl rfl (zk.add rfl rfl ?_) ?_;(focus (constructor <;> omega)))|(refine zA.fl rfl rfl (zk.sub rfl rfl ?_) ?_;(focus (constructor <;> omega))))|(refine zA.iY rfl rfl rfl ?_))|(refine zw ?_)|(refine zZ ?_)|(refine zQ ?_)|(refine zB ?_)|(refine' zh.r1 (r := .cell 8 48) (.inl rfl) ?_ ?_;rotate_left 1;(focus (first|(exact zn.xM 2 zx hh rfl rfl rfl rfl)|(exact zn.xM 3 zx hh rfl rfl rfl rfl))))|(refine And.intro ?_ ?_)|(exact xR.nil)|(refine xR.cons ?_ ?_)|(refine jG.fl rfl rfl (.ev zx rfl))|(refine jG.fl rfl rfl (zk.fD zx rfl rfl rfl rfl rfl rfl rfl rfl rfl))|(refine jG.fl rfl rfl (zk.zM zx 2 hh rfl rfl rfl rfl))|(refine jG.fl rfl rfl (zk.zM zx 3 hh rfl rfl rfl rfl))|(refine jG.fl rfl rfl (zk.add rfl rfl ?_);(focus (constructor <;> omega)))|(refine jG.fl rfl rfl (zk.sub rfl rfl ?_);(focus (constructor <;> omega)))
 all_goals try simp only [PL.uH] at hh
 all_goals
   first
     | skip
       replace hh:=hh.vR
       apply jl.fin (y:=(PE.mk _ _ _ ⟨_,_,_⟩ _ _ y.1 [],f2 y.2 (0,0))) (hh:=hh)
       case hv=>rfl
       case hi=>assumption
       case hs =>
         dsimp only [PE.ob,List.cons_append,List.nil_append]
         (repeat' first|(exact zK.nil)|(exact zK.refl _)|(refine' zK.p ?_ ?_;rotate_left 1;(focus (((repeat' first|(exact Pick.here)|(refine' Pick.there ?_));done)))))
         (repeat' first|(exact zK.refl _)|(refine zK.drop ?_))
       case hp =>
         have g1:y.1.length≤4:=by have:=hq.1;omega
         have g2:=aM hq.2
         have g3:=Nat.mul_le_mul_right (w+1) g1
         dsimp only
         rw [PE.qC]
         simp only [PE.value,PE.kids,PE.sub,wK,List.length_nil]
         omega
     | skip
       replace hh:=hh.vR
       apply jl.fin (y:=(PE.mk _ _ _ ⟨_,_,_⟩ _ _ [] [y.1],f2 (0,0) (1,_))) (hh:=hh)
       case hv=>rfl
       case hi=>assumption
       case hs =>
         dsimp only [PE.ob,List.cons_append,List.nil_append]
         (repeat' first|(exact zK.nil)|(exact zK.refl _)|(refine' zK.p ?_ ?_;rotate_left 1;(focus (((repeat' first|(exact Pick.here)|(refine' Pick.there ?_));done)))))
         (repeat' first|(exact zK.refl _)|(refine zK.drop ?_))
       case hp =>
         dsimp only
         rw [PE.qC]
         simp only [PE.value,PE.kids,PE.sub,uV,nL,List.length_nil]
         dsimp only at hq
         omega
     | skip
       skip
       apply jl.fin (y:=(PE.mk _ _ _ ⟨_,_,_⟩ _ _ _ [y.1],f2 (_,_) (1,_))) (hh:=hh)
       case hv=>rfl
       case hi=>assumption
       case hs =>
         dsimp only [PE.ob,List.cons_append,List.nil_append]
         (repeat' first|(exact zK.nil)|(exact zK.refl _)|(refine' zK.p ?_ ?_;rotate_left 1;(focus (((repeat' first|(exact Pick.here)|(refine' Pick.there ?_));done)))))
         (repeat' first|(exact zK.refl _)|(refine zK.drop ?_))
       case hp =>
         rename List PE × Nat × Nat=>y0
         have hq0:y0.1.length=Int.toNat 1∧∀ e∈y0.1,qV e.v≤w:=by assumption
         have g1:y0.1.length≤4:=by have:=hq0.1;omega
         have g2:=aM hq0.2
         have g3:=Nat.mul_le_mul_right (w+1) g1
         dsimp only at hq ⊢
         rw [PE.qC]
         simp only [PE.value,PE.kids,PE.sub,nL,List.length_nil]
         omega
end Go.Proofs.YtolhegocbkckdaaGreat

namespace Go.Proofs.YtolhegocbkckdaaGreat
open Go
set_option linter.unusedSimpArgs false
set_option linter.unusedVariables false
def Df (r:Bind × Int):V := .jY [r.1.zF,.int .i64 r.2]
@[simp] theorem Fu (r:Bind × Int):(Df r).dat=true:=by simp [Df]
end Go.Proofs.YtolhegocbkckdaaGreat

namespace Go.Proofs.YtolhegocbkckdaaGreat
open Go
set_option linter.unusedSimpArgs false
set_option linter.unusedVariables false
def Tab.types (t:Tab):List Int:=t.qO.map Col.type
theorem Fa {α : Type} (p : α → Bool) (xs:List α):hits p xs xs.length=hits p xs xs.length:=rfl
theorem Cq (l:List Int):sc (ints l)≤l.length:=by
 have:=Wp (f:=iV) 1 (fun _=>Nat.le_refl 1) l
 simp only [ints,sc];omega
theorem Mf (l:List Int) (h:l.length≤10000000):Uk (ints l) 1≤4000000000000:=by
 have h1:=Cq l
 have h2:=UM (ints l) 1
 omega
theorem Qu (t:Tab) (ht:t.wt≤1048576) (s:S):VCalls Tryz.prog 35 [t.zF] s (fun v t'=>Own2 (ints t.types) v t'):=by
 simp only [Tab.wt] at ht
 have hl:=jA Col.wt t.qO
 refine zi.body Tryz.func35 rfl (by kernel_rfl) ?_
 repeat' first|(refine zf ?_;first|(refine zq.nil ?_)|(refine zq.ev zx rfl ?_)|(refine qW ?_;refine zq.box rfl rfl rfl rfl ?_)|(refine kZ ?_;first|(refine zq.uT zx rfl rfl rfl rfl rfl ?_))|(refine zo ?_;first|(refine zq.ans (zk.zm zx rfl rfl rfl rfl) ?_))|(refine qx ?_;first|(refine zq.ans (zk.z8 zx rfl rfl rfl) ?_)))|(refine zH ?_;first|(refine WL.seq ?_)|(refine WL.region (by kernel_rfl) ?_)|(refine WL.block ?_))|(refine zw ?_)
 refine WL.mV (t:=3) 1 rfl rfl rfl rfl ?_
 refine WL.xK (fun i:Nat=>t.qO.length - i) (fun i=>[(8,.sl 0 (t.qO.map Col.zF)),(9,.int .i64 t.qO.length),(3,.sl (s.next+1) (((t.qO.take i).map Col.type).map iV)),(10,.int .i64 (i:Int))])
   (fun i=>[.var [.str t.name,.sl 0 (t.qO.map Col.zF)],.fam i 1]) (fun i=>i≤t.qO.length) 2 0 (by simp) (fun _=>rfl) ⟨rfl,rfl,rfl,rfl,trivial⟩ rfl (fun i hi=>?_) (fun i hi=>?_)
 · simp [qF,qG,Own.under,V.under,V.zO]
 rcases Nat.lt_or_ge i t.qO.length with hlt | hge
 · skip
   repeat' first|(refine zf ?_;first|(refine zq.nil ?_)|(refine zU ?_;refine zq.qD zx rfl rfl rfl rfl rfl rfl rfl rfl rfl ?_)|(refine zq.ev zx rfl ?_)|(refine qj ?_;refine zq.alloc zx rfl rfl rfl rfl ?_)|(refine kZ ?_;first|(refine zq.Kl zx rfl rfl rfl rfl rfl rfl rfl rfl rfl rfl rfl ?_))|(refine ji ?_;first|(refine zq.app zx rfl rfl rfl rfl rfl rfl rfl rfl rfl rfl rfl ?_ ?_ (xU.of ?_ rfl) ?_;(focus (first | rfl |(simp;omega)));(focus (first | exact zS.of rfl | exact zS.map fun _=>rfl | exact PE.els _ (fun _=>rfl) _));(focus (first | omega |(simp;omega)))))|(refine zo ?_;first|(refine zq.ans (zk.zm zx rfl rfl rfl rfl) ?_))|(refine xk ?_;first|(refine zq.ans (zk.add rfl rfl ?_) ?_;(focus (constructor <;> omega))))|(refine xw ?_;first|(refine zq.ans (zk.yZ zx rfl rfl rfl rfl rfl (by omega) rfl rfl) ?_)))|(refine zH ?_;first|(refine WL.seq ?_)|(refine WL.region (by kernel_rfl) ?_)|(refine WL.block ?_)|(refine WL.skip ?_)|(refine zu ?_;first|(refine WL.zJ rfl ?_ ?_;(focus (first|(simp <;> omega))))))|(refine zw ?_)|(refine zQ ?_)
   all_goals
     refine qB.of (i+1) ?_ ?_ ?_ ?_
     · first | omega |(refine ⟨?_,?_⟩;(focus (first | omega |(simp;omega)));(first | omega |(simp_all [hi] <;> fail)|(simp_all [hi];omega)))|(simp_all [hi] <;> fail)|(simp_all [hi];omega)
     · first | omega |(simp;omega) | simp_all
     · repeat' first
         | exact qz.nil
         |(refine qz.mk rfl ?_ ?_)
         | rfl
         |(simp only [List.take_succ_eq_append_getElem hlt,List.map_append,List.map_cons,List.map_nil];rfl)
         |(simp only [List.take_succ_eq_append_getElem hlt,List.map_append,List.map_cons,List.map_nil];simp [hi] <;> fail)
         |(simp only [List.take_succ_eq_append_getElem hlt,List.map_append,List.map_cons,List.map_nil];simp [hi];omega)
         |(simp [hi] <;> fail)
         |(simp [hi];omega)
     · first | rfl |(simp only [List.take_succ_eq_append_getElem hlt,List.map_append,List.map_cons,List.map_nil];rfl)|(simp only [List.take_succ_eq_append_getElem hlt,List.map_append,List.map_cons,List.map_nil];simp [hi] <;> fail)|(simp only [List.take_succ_eq_append_getElem hlt,List.map_append,List.map_cons,List.map_nil];simp [hi];omega)|(simp [hi] <;> fail)|(simp [hi];omega)
 · have hi2 : i = t.qO.length := by omega
   subst hi2
   repeat' first|(refine zf ?_;first|(refine zq.nil ?_)|(refine zq.ev zx rfl ?_))|(refine zH ?_;first|(refine WL.seq ?_)|(refine WL.region (by kernel_rfl) ?_)|(refine WL.exit ?_)|(refine WL.ret ?_)|(refine zu ?_;first|(refine WL.zY rfl ?_ ?_;(focus (first|(simp <;> omega))))))|(refine zw ?_)|(refine zC ?_)|(refine zV ?_)|(refine zL ?_)|(refine zh.r1 (r := .tmp 2) (.inl rfl) (zn.tmp rfl) ?_)
   rw [List.take_length]
   exact Own2.fam (f:=iV) (cs:=t.types) (AY:=1) 1 (by simp [Tab.types,kK]) (fun _=>rfl) (fun _=>rfl)
theorem lY (t:Tab) (ht:t.wt≤1048576) (s:S):VCalls Tryz.prog 94 [t.zF] s (fun v t'=>Own2 (ints t.types) v t'):=by
 simp only [Tab.wt] at ht
 have hl:=jA Col.wt t.qO
 refine zi.body Tryz.func94 rfl (by kernel_rfl) ?_
 repeat' first|(refine zf ?_;first|(refine zq.nil ?_)|(refine zq.ev zx rfl ?_)|(refine qW ?_;refine zq.box rfl rfl rfl rfl ?_)|(refine kZ ?_;first|(refine zq.uT zx rfl rfl rfl rfl rfl ?_)))|(refine zH ?_;first|(refine WL.seq ?_)|(refine WL.region (by kernel_rfl) ?_)|(refine WL.block ?_))|(refine zw ?_)
 refine WL.mV (t:=3) 1 rfl rfl rfl rfl ?_
 refine WL.xK (fun i:Nat=>t.qO.length - i) (fun i=>[(1,.ptr (s.next+0) 0),(3,.sl (s.next+1) (((t.qO.take i).map Col.type).map iV)),(4,.int .i64 (i:Int))])
   (fun i=>[.var [.str t.name,.sl 0 (t.qO.map Col.zF)],.fam i 1]) (fun i=>i≤t.qO.length) 2 0 (by simp) (fun _=>rfl) ⟨rfl,rfl,rfl,trivial⟩ rfl (fun i hi=>?_) (fun i hi=>?_)
 · simp [qF,qG,Own.under,V.under,V.zO]
 rcases Nat.lt_or_ge i t.qO.length with hlt | hge
 · skip
   repeat' first|(refine zf ?_;first|(refine zq.nil ?_)|(refine zq.ev zx rfl ?_)|(refine kZ ?_;first|(refine zq.Kl zx rfl rfl rfl rfl rfl rfl rfl rfl rfl rfl rfl ?_))|(refine ji ?_;first|(refine zq.app zx rfl rfl rfl rfl rfl rfl rfl rfl rfl rfl rfl ?_ ?_ (xU.of ?_ rfl) ?_;(focus (first | rfl |(simp;omega)));(focus (first | exact zS.of rfl | exact zS.map fun _=>rfl | exact PE.els _ (fun _=>rfl) _));(focus (first | omega |(simp;omega)))))|(refine zo ?_;first|(refine zq.ans (zk.zm zx rfl rfl rfl rfl) ?_))|(refine qx ?_;first|(refine zq.ans (zk.z8 zx rfl rfl rfl) ?_))|(refine xk ?_;first|(refine zq.ans (zk.add rfl rfl ?_) ?_;(focus (constructor <;> omega))))|(refine xw ?_;first|(refine zq.ans (zk.yZ zx rfl rfl rfl rfl rfl (by omega) rfl rfl) ?_)))|(refine zH ?_;first|(refine WL.seq ?_)|(refine WL.region (by kernel_rfl) ?_)|(refine WL.block ?_)|(refine WL.skip ?_)|(refine zu ?_;first|(refine WL.zJ rfl ?_ ?_;(focus (first|(simp <;> omega))))))|(refine zw ?_)|(refine zQ ?_)
   all_goals
     refine qB.of (i+1) ?_ ?_ ?_ ?_
     · first | omega |(refine ⟨?_,?_⟩;(focus (first | omega |(simp;omega)));(first | omega |(simp_all [hi] <;> fail)|(simp_all [hi];omega)))|(simp_all [hi] <;> fail)|(simp_all [hi];omega)
     · first | omega |(simp;omega) | simp_all
     · repeat' first
         | exact qz.nil
         |(refine qz.mk rfl ?_ ?_)
         | rfl
         |(simp only [List.take_succ_eq_append_getElem hlt,List.map_append,List.map_cons,List.map_nil];rfl)
         |(simp only [List.take_succ_eq_append_getElem hlt,List.map_append,List.map_cons,List.map_nil];simp [hi] <;> fail)
         |(simp only [List.take_succ_eq_append_getElem hlt,List.map_append,List.map_cons,List.map_nil];simp [hi];omega)
         |(simp [hi] <;> fail)
         |(simp [hi];omega)
     · first | rfl |(simp only [List.take_succ_eq_append_getElem hlt,List.map_append,List.map_cons,List.map_nil];rfl)|(simp only [List.take_succ_eq_append_getElem hlt,List.map_append,List.map_cons,List.map_nil];simp [hi] <;> fail)|(simp only [List.take_succ_eq_append_getElem hlt,List.map_append,List.map_cons,List.map_nil];simp [hi];omega)|(simp [hi] <;> fail)|(simp [hi];omega)
 · have hi2 : i = t.qO.length := by omega
   subst hi2
   repeat' first|(refine zf ?_;first|(refine zq.nil ?_)|(refine zq.ev zx rfl ?_)|(refine zo ?_;first|(refine zq.ans (zk.zm zx rfl rfl rfl rfl) ?_))|(refine qx ?_;first|(refine zq.ans (zk.z8 zx rfl rfl rfl) ?_)))|(refine zH ?_;first|(refine WL.seq ?_)|(refine WL.region (by kernel_rfl) ?_)|(refine WL.exit ?_)|(refine WL.ret ?_)|(refine zu ?_;first|(refine WL.zY rfl ?_ ?_;(focus (first|(simp <;> omega))))))|(refine zw ?_)|(refine zC ?_)|(refine zV ?_)|(refine zL ?_)|(refine zh.r1 (r := .tmp 2) (.inl rfl) (zn.tmp rfl) ?_)
   rw [List.take_length]
   exact Own2.fam (f:=iV) (cs:=t.types) (AY:=1) 1 (by simp [Tab.types,kK]) (fun _=>rfl) (fun _=>rfl)
end Go.Proofs.YtolhegocbkckdaaGreat
