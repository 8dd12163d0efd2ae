/-
  Draws whose owned answer is frozen at the end; calls that answer plain values from what is lent; children of typed trees.
  Typed trees of plans drawn from a string of bytes: children, trees.
  Own work; no condition.
-/
import Derived.Test.YtolhegocbkckdaaGreatDTd
import Derived.Test.YtolhegocbkckdaaGreatDCatD
namespace Go.Proofs.YtolhegocbkckdaaGreat
open Go
set_option linter.unusedSimpArgs false
set_option linter.unusedVariables false
theorem jl.BA {P:Program} {g:FuncId} {b:V} {args:List V} {β : Type} {F : β → V} {B : β → List BE} {p : β → Prop} {f : β → V} (h:jl P g b args [] F B p) (hc:∀ (y : β) (H:List BE),∃ H2,qm (B y++H) (F y) (f y) H2∧zK H2 H):bN P g b args f p:=by
 intro s H l i h0 hi hh
 refine VCalls.turn (h s H l i h0 hi hh) fun v t _ ⟨y,s',i',h',h1,h2,h3,h4,h5⟩=>?_
 subst h4 h2
 obtain ⟨H2,k1,k2⟩:=hc y (.cell l (vw b i' h')::H)
 obtain ⟨s2,k3,k4⟩:=((h5.pack k1).sel (.cons 0 rfl rfl k2)).BA
 exact ⟨f y,s2.ext [],k3,y,s2,i',h',h1,rfl,h3,rfl,k4⟩
theorem Zo {b:V} (hb:Bytes b):bN Tryz.prog 67 b [] (fun y:List Tab × Nat × Nat=>(⟨y.1⟩:jy).zF) (fun y=>(0<y.1.length∧y.1.length≤3)∧∀ t∈y.1,t.small) :=
 (gX hb).BA fun y H=>⟨H,.agg (.cons (.own 0 rfl rfl) .nil),zK.refl _⟩
end Go.Proofs.YtolhegocbkckdaaGreat

namespace Go.Proofs.YtolhegocbkckdaaGreat
open Go
set_option linter.unusedSimpArgs false
set_option linter.unusedVariables false
abbrev wW (ts:List Tab):V := .agg [.sl 0 (ts.map Tab.zF)]
theorem Qy {b:V} {w:Nat} {ts:List Tab} {env:List (List Int)} {ty deep m:Int} (he:PE.D Tryz.prog 102 b [wW ts,bf env,.int .i64 ty,.int .i64 (deep - 1)] (fun e=>qV e.v≤w)) (hd:0≤deep∧deep≤100) (hm:0≤m∧m≤5) :
   PE.KD Tryz.prog 115 b [wW ts,bf env,.int .i64 ty,.int .i64 deep,.int .i64 m] (fun es=>es.length=m.toNat∧∀ e∈es,qV e.v≤w):=by
 intro s H l i h hi hh
 refine zi.jX Tryz.func115 rfl (by kernel_rfl) ?_
 replace hh:Hold s s.next (.cell l (vw b i h)::H):=hh
 repeat' first|(refine qW ?_;first|(refine zq.gZ hh rfl rfl ?_;intro s n hh))|(refine kZ ?_;first|(refine zq.ans (zk.BU zx rfl rfl rfl rfl rfl) ?_))|(refine zf ?_;first|(refine zq.nil ?_)|(refine zq.ev zx rfl ?_))|(refine zH ?_;first|(refine WL.seq ?_)|(refine WL.region (by kernel_rfl) ?_)|(refine WL.block ?_))|(refine zw ?_)
 obtain ⟨nb,rfl⟩:∃ nb,nb=n:=⟨n,rfl⟩
 replace hh:=hh.vR
 refine WL.yw (fun y:(List PE × Nat × Nat) × Int × Int=>(m - y.1.1.length).toNat) (fun y=>[(0,.ptr l 0),(2,bf env),(3,.int .i64 ty),(4,.int .i64 deep),(5,.int .i64 m),(7,.ptr nb 0),(13,.qJ (.is y.1.2.1) y.1.2.2 0 y.1.1.length),(14,.int .i64 (y.1.1.length:Int))])
   (fun y => .own (.qJ (.is y.1.2.1) y.1.2.2 0 y.1.1.length) (.sl 0 (y.1.1.map PE.zF)) :: .cell l (vw b y.2.1 y.2.2) :: .cell nb [.sl 0 (ts.map Tab.zF)]::H)
   (fun y=>((y.1.1.length:Int)≤m∧∀ e∈y.1.1,qV e.v≤w)∧0≤y.2.1) (([],0,0),i,h) ⟨⟨by simp;omega,by simp⟩,hi⟩ ⟨rfl,rfl,rfl,rfl,rfl,rfl,rfl,rfl,trivial⟩ hh (by (repeat' first|(exact zK.nil)|(exact zK.refl _)|(refine' zK.p ?_ ?_;rotate_left 1;(focus (((repeat' first|(exact Pick.here)|(refine' Pick.there ?_));done)))))) (fun y s hI hh=>?_)
 obtain ⟨⟨es,c0,l0⟩,i,h⟩:=y
 obtain ⟨⟨hI,XP⟩,hi⟩:=hI
 dsimp only at hI XP hi hh ⊢
 by_cases hlt:(es.length:Int)<m
 · skip
   repeat' first|(refine kZ ?_;first|(refine zq.ans (zk.Zb zx rfl rfl rfl rfl rfl rfl rfl rfl ?_) ?_;(focus ((repeat' first|(exact jM.of rfl));done))))|(refine ji ?_;first|(refine' zq.appW zx 3 rfl rfl rfl rfl rfl rfl rfl rfl rfl rfl hh ?_ ?_ ?_ (xU.of ?_ rfl) ?_;rotate_left 2 ;(focus (first|(intro x hx;obtain ⟨y,_,rfl⟩:=List.mem_map.1 hx;first | rfl | exact PE.qA _ | exact PE.xC _))) ;(focus ((repeat' first|(exact qw.nil)|(exact qm.qP rfl)|(refine' qm.op ?_;((repeat' first|(exact Pick.here)|(refine' Pick.there ?_));done))|(refine' qw.cons ?_ ?_)|(refine' qm.agg ?_));done)) ;(focus ((repeat' first|(exact zS.of rfl));done)) ;(focus (first | omega |(simp ;omega))) ;intro s c n hh))|(refine zy 102 ?_;first|(refine zq.jF 1 rfl rfl Jb hh (he) .nil rfl rfl ?_ ?_;(focus (first | assumption | omega)) ;intro s y i h hq hi hh ;try dsimp only [List.cons_append,List.nil_append] at hh))|(refine zf ?_;first|(refine zq.nil ?_)|(refine zq.ev zx rfl ?_)|(refine zo ?_;first|(refine zq.ans (zk.zM zx 2 hh rfl rfl rfl rfl) ?_))|(refine xk ?_;first|(refine zq.ans (zk.add rfl rfl ?_) ?_;(focus (constructor <;> omega)))|(refine zq.ans (zk.sub rfl rfl ?_) ?_;(focus (constructor <;> omega)))))|(refine zH ?_;first|(refine WL.seq ?_)|(refine WL.region (by kernel_rfl) ?_)|(refine WL.block ?_)|(refine WL.skip ?_)|(refine zu ?_;first|(refine WL.zJ rfl ?_ ?_;(focus (first|(exact decide_eq_true (by assumption)))))))|(refine zw ?_)|(refine zQ ?_)
   rw [PE.snoc,show (es.map PE.zF).length+[PE.ov y].length=(es++[y.1]).length by simp] at hh
   refine kW.of ((es++[y.1],c,n),i,h) ?_ hh (zK.refl _) ⟨⟨by simp;omega,fun e he=>?_⟩,by assumption⟩ (by simp;omega)
   · dsimp only
     repeat' first | exact qz.nil |(refine qz.mk rfl ?_ ?_) | rfl |(simp;omega)|(simp <;> fail)
   · rcases List.mem_append.1 he with he | he
     · exact XP e he
     · rw [List.mem_singleton] at he;subst he;exact hq
 · skip
   repeat' first|(refine zf ?_;first|(refine zq.nil ?_)|(refine zq.ev zx rfl ?_))|(refine zH ?_;first|(refine WL.seq ?_)|(refine WL.region (by kernel_rfl) ?_)|(refine WL.exit ?_)|(refine WL.ret ?_)|(refine zu ?_;first|(refine WL.zY rfl ?_ ?_;(focus (first|(exact decide_eq_false (by assumption)))))))|(refine zw ?_)|(refine zC ?_)|(refine zV ?_)|(refine ko ?_)|(refine zh.r1 (r := .tmp 12) (.inl rfl) (zn.tmp rfl) ?_)
   exact jl.fin (y:=(es,c0,l0)) ⟨by show es.length=_;omega,XP⟩ rfl hi hh (.cons 0 rfl rfl (.cons 0 rfl rfl (.drop (zK.refl _))))
set_option maxHeartbeats 4000000 in
theorem aN {b:V} (hb:Bytes b) {ts:List Tab} {env:List (List Int)} (hE:Li env) {ty deep:Int} {w W:Nat} (hd:0≤deep∧deep≤100) (hW:8≤W∧(1≤deep→4*(w+1)+8≤W))
   (hk:1≤deep→∀ m:Int,0≤m∧m≤5→PE.KD Tryz.prog 115 b [wW ts,bf env,.int .i64 ty,.int .i64 deep,.int .i64 m] (fun es=>es.length=m.toNat∧∀ e∈es,qV e.v≤w))
   (hbl:1≤deep→PE.D Tryz.prog 116 b [wW ts,bf env,.int .i64 deep] (fun e=>qV e.v≤W)) :
   PE.D Tryz.prog 102 b [wW ts,bf env,.int .i64 ty,.int .i64 deep] (fun e=>qV e.v≤W):=by
 intro s H l i h hi hh
 replace hh:Hold s s.next (.cell l (vw b i h)::H):=hh
 refine zi.jX Tryz.func102 rfl (by kernel_rfl) ?_
 by_cases hz:deep≤0
 · skip
   repeat' first|(refine qW ?_;first|(refine zq.gZ hh rfl rfl ?_;intro s n hh))|(refine qj ?_;refine zq.kR zx hh rfl rfl ?_;intro s n hh)|(refine zU ?_;first|(refine zq.zN zx 1 hh rfl rfl rfl rfl rfl rfl rfl rfl rfl ?_;intro s hh)|(refine zq.zN zx 3 hh rfl rfl rfl rfl rfl rfl rfl rfl rfl ?_;intro s hh))|(refine zy 68 ?_;first|(refine zq.qc 2 rfl rfl wU hh rfl rfl ?_ (qg hb (by omega)) ?_;(focus (first | assumption | omega)) ;intro s x i h hq hi hh ;try dsimp only))|(refine zy 113 ?_;first|(refine zq.qc 0 rfl rfl Aw hh rfl rfl ?_ (eX hb _) ?_;(focus (first | assumption | omega)) ;intro s x i h hq hi hh ;try dsimp only))|(refine zy 114 ?_;first|(refine zq.jF 0 rfl rfl C9 hh (oz hb hE _) .nil rfl rfl ?_ ?_;(focus (first | assumption | omega)) ;intro s y i h hq hi hh ;try dsimp only [List.cons_append,List.nil_append] at hh))|(refine zf ?_;first|(refine zq.nil ?_)|(refine kG ?_;first|(refine zq.gF rfl rfl rfl ?_)|(refine zq.gD true rfl rfl rfl ?_ ?_;(focus (first|(exact decide_eq_true (by assumption))))))|(refine' zq.ans (v := .agg _) (zk.jV zx rfl rfl rfl rfl ?_) ?_;rotate_left 1;(focus ((repeat' first|(exact Fills.nil)|(refine' Fills.cons rfl rfl rfl rfl ?_));done)))|(refine zq.ev zx rfl ?_))|(refine zH ?_;first|(refine WL.seq ?_)|(refine WL.region (by kernel_rfl) ?_)|(refine WL.skip ?_)|(refine WL.ret ?_)|(refine zu ?_;first|(refine WL.qb rfl ?_)|(refine WL.cond rfl (fun h=>?_) (fun h=>?_))))|(refine zw ?_)|(refine zZ ?_)|(refine' zh.r1 (r := .cell 10 48) (.inl rfl) ?_ ?_;rotate_left 1;(focus (first|(exact zn.xM 1 zx hh rfl rfl rfl rfl)|(exact zn.xM 3 zx hh rfl rfl rfl rfl))))
   all_goals
     first
     | skip
       replace hh:=hh.vR.vR
       apply jl.fin (y:=(PE.mk _ _ _ ⟨_,_,_⟩ _ _ [] [],fun _=>(0,0))) (hh:=hh)
       case hv=>rfl
       case hi=>assumption
       case hs =>
         dsimp only [PE.ob,List.cons_append,List.nil_append]
         (repeat' first|(exact zK.nil)|(exact zK.refl _)|(refine' zK.p ?_ ?_;rotate_left 1;(focus (((repeat' first|(exact Pick.here)|(refine' Pick.there ?_));done)))))
         (repeat' first|(exact zK.refl _)|(refine zK.drop ?_))
       case hp =>
         dsimp only
         rw [PE.qC]
         simp only [PE.value,PE.kids,PE.sub,wK,uV,List.length_nil]
         first | omega |(have hq2:x.text.length≤2:=hq;omega)
     | skip
       apply jl.fin (y:=y) (hh:=hh)
       case hv=>rfl
       case hi=>assumption
       case hs =>
         dsimp only [PE.ob,List.cons_append,List.nil_append]
         (repeat' first|(exact zK.nil)|(exact zK.refl _)|(refine' zK.p ?_ ?_;rotate_left 1;(focus (((repeat' first|(exact Pick.here)|(refine' Pick.there ?_));done)))))
         (repeat' first|(exact zK.refl _)|(refine zK.drop ?_))
       case hp =>
         first | exact Nat.le_trans hq (by omega)|(dsimp only at hq ⊢;omega)
 replace hk:=hk (by omega)
 replace hbl:=hbl (by omega)
 replace hW:8≤W∧4*(w+1)+8≤W:=⟨hW.1,hW.2 (by omega)⟩
 repeat' first|(refine qW ?_;first|(refine zq.gZ hh rfl rfl ?_;intro s n hh))|(refine qj ?_;refine zq.kR zx hh rfl rfl ?_;intro s n hh)|(refine zU ?_;first|(refine zq.zN zx 1 hh rfl rfl rfl rfl rfl rfl rfl rfl rfl ?_;intro s hh)|(refine zq.zN zx 2 hh rfl rfl rfl rfl rfl rfl rfl rfl rfl ?_;intro s hh)|(refine zq.zN zx 3 hh rfl rfl rfl rfl rfl rfl rfl rfl rfl ?_;intro s hh))|(refine zy 38 ?_;first|(refine zq.qc 0 rfl rfl vE hh rfl rfl ?_ (zP hb (by omega)) ?_;(focus (first | assumption | omega)) ;intro s x i h hq hi hh ;try dsimp only))|(refine zy 68 ?_;first|(refine zq.qc 0 rfl rfl wU hh rfl rfl ?_ (qg hb (by omega)) ?_;(focus (first | assumption | omega)) ;intro s x i h hq hi hh ;try dsimp only)|(refine zq.qc 2 rfl rfl wU hh rfl rfl ?_ (qg hb (by omega)) ?_;(focus (first | assumption | omega)) ;intro s x i h hq hi hh ;try dsimp only))|(refine zy 113 ?_;first|(refine zq.qc 0 rfl rfl Aw hh rfl rfl ?_ (eX hb _) ?_;(focus (first | assumption | omega)) ;intro s x i h hq hi hh ;try dsimp only))|(refine zy 114 ?_;first|(refine zq.jF 0 rfl rfl C9 hh (oz hb hE _) .nil rfl rfl ?_ ?_;(focus (first | assumption | omega)) ;intro s y i h hq hi hh ;try dsimp only [List.cons_append,List.nil_append] at hh))|(refine zy 115 ?_;first|(refine zq.jF 0 rfl rfl Ay hh (hk _ (by omega)) .nil rfl rfl ?_ ?_;(focus (first | assumption | omega)) ;intro s y i h hq hi hh ;try dsimp only [List.cons_append,List.nil_append] at hh))|(refine zy 116 ?_;first|(refine zq.jF 0 rfl rfl H7 hh (hbl) .nil rfl rfl ?_ ?_;(focus (first | assumption | omega)) ;intro s y i h hq hi hh ;try dsimp only [List.cons_append,List.nil_append] at hh))|(refine zf ?_;first|(refine zq.nil ?_)|(refine kG ?_;first|(refine zq.gT rfl rfl rfl ?_)|(refine zq.gD false rfl rfl rfl ?_ ?_;(focus (first|(exact decide_eq_false (by assumption))))))|(refine' zq.ans (v := .agg _) (zk.jV zx rfl rfl rfl rfl ?_) ?_;rotate_left 1;(focus ((repeat' first|(exact Fills.nil)|(refine' Fills.cons rfl rfl rfl rfl ?_));done)))|(refine zq.ev zx rfl ?_)|(refine zo ?_;first|(refine zq.ans (zk.zM zx 2 hh rfl rfl rfl rfl) ?_)))|(refine zH ?_;first|(refine WL.seq ?_)|(refine WL.region (by kernel_rfl) ?_)|(refine WL.drawn (id:=9) [0,3,4,5,6,7,1,2,8,9,10] [1,8,10] [[],[0],[0,1],[],[],[],[],[],[0,1,3,4,5,6,7],[0,1,2,3,4,5,6,7,8],[0,1,2,3,4,5,6,7,8,9]] (by kernel_rfl) (by kernel_rfl) ?_)|(refine WL.block ?_)|(refine WL.skip ?_)|(refine WL.ret ?_)|(refine zu ?_;first|(refine WL.cond rfl (fun h=>?_) (fun h=>?_))))|(refine vN ?_;first|(refine zA.nil ?_)|(refine' zA.fl (v := .agg _) rfl rfl (zk.jV zx rfl rfl rfl rfl ?_) ?_;rotate_left 1;(focus ((repeat' first|(exact Fills.nil)|(refine' Fills.cons rfl rfl rfl rfl ?_));done)))|(refine zA.fl rfl rfl (.ev zx rfl) ?_)|(refine qo rfl ?_;first|(refine zA.fl rfl rfl (zk.zM zx 2 hh rfl rfl rfl rfl) ?_))|(refine yj rfl ?_;first|(refine zA.fl rfl rfl (zk.add rfl rfl ?_) ?_;(focus (constructor <;> omega))))|(refine zA.iY rfl rfl rfl ?_))|(refine zw ?_)|(refine zZ ?_)|(refine zQ ?_)|(refine zB ?_)|(refine' zh.r1 (r := .cell 10 48) (.inl rfl) ?_ ?_;rotate_left 1;(focus (first|(exact zn.xM 1 zx hh rfl rfl rfl rfl)|(exact zn.xM 2 zx hh rfl rfl rfl rfl)|(exact zn.xM 3 zx hh rfl rfl rfl rfl))))|(refine And.intro ?_ ?_)|(exact xR.nil)|(refine xR.cons ?_ ?_)|(refine jG.fl rfl rfl (.ev zx rfl))|(refine jG.fl rfl rfl (zk.zM zx 2 hh rfl rfl rfl rfl))|(refine jG.fl rfl rfl (zk.add rfl rfl ?_);(focus (constructor <;> omega)))
 all_goals
   first
     | skip
       replace hh:=hh.vR.vR
       apply jl.fin (y:=(PE.mk _ _ _ ⟨_,_,_⟩ _ _ [] [],fun _=>(0,0))) (hh:=hh)
       case hv=>rfl
       case hi=>assumption
       case hs =>
         dsimp only [PE.ob,List.cons_append,List.nil_append]
         (repeat' first|(exact zK.nil)|(exact zK.refl _)|(refine' zK.p ?_ ?_;rotate_left 1;(focus (((repeat' first|(exact Pick.here)|(refine' Pick.there ?_));done)))))
         (repeat' first|(exact zK.refl _)|(refine zK.drop ?_))
       case hp =>
         dsimp only
         rw [PE.qC]
         simp only [PE.value,PE.kids,PE.sub,wK,uV,List.length_nil]
         first | omega |(have hq2:x.text.length≤2:=hq;omega)
     | skip
       replace hh:=hh.vR
       apply jl.fin (y:=(PE.mk _ _ _ ⟨_,_,_⟩ _ _ y.1 [],f2 y.2 (0,0))) (hh:=hh)
       case hv=>rfl
       case hi=>assumption
       case hs =>
         dsimp only [PE.ob,List.cons_append,List.nil_append]
         (repeat' first|(exact zK.nil)|(exact zK.refl _)|(refine' zK.p ?_ ?_;rotate_left 1;(focus (((repeat' first|(exact Pick.here)|(refine' Pick.there ?_));done)))))
         (repeat' first|(exact zK.refl _)|(refine zK.drop ?_))
       case hp =>
         have g1:y.1.length≤4:=by have:=hq.1;omega
         have g2:=aM hq.2
         have g3:=Nat.mul_le_mul_right (w+1) g1
         dsimp only
         rw [PE.qC]
         simp only [PE.value,PE.kids,PE.sub,wK,List.length_nil]
         omega
     | skip
       apply jl.fin (y:=y) (hh:=hh)
       case hv=>rfl
       case hi=>assumption
       case hs =>
         dsimp only [PE.ob,List.cons_append,List.nil_append]
         (repeat' first|(exact zK.nil)|(exact zK.refl _)|(refine' zK.p ?_ ?_;rotate_left 1;(focus (((repeat' first|(exact Pick.here)|(refine' Pick.there ?_));done)))))
         (repeat' first|(exact zK.refl _)|(refine zK.drop ?_))
       case hp =>
         first | exact Nat.le_trans hq (by omega)|(dsimp only at hq ⊢;omega)
end Go.Proofs.YtolhegocbkckdaaGreat
