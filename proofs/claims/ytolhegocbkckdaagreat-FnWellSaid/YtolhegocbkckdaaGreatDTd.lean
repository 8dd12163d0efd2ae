/-
 Typed trees of plans drawn from a string of bytes: literals, rows, columns. Own work; no condition.
-/
import Derived.Test.YtolhegocbkckdaaGreatDPd5
import Derived.Test.YtolhegocbkckdaaGreatMg10
namespace Go.Proofs.YtolhegocbkckdaaGreat
open Go
set_option linter.unusedSimpArgs false
set_option linter.unusedVariables false
theorem Qv {b:V} (hb:Bytes b) (k:Int):bN Tryz.prog 124 b [.int .i64 k] Val.zF (fun v=>v.text.length≤2):=by
 intro s H l i h hi hh
 refine zi.jX Tryz.func124 rfl (by kernel_rfl) ?_
 repeat' first|(refine qj ?_;refine zq.kR zx hh rfl rfl ?_;intro s n hh)|(refine zU ?_;first|(refine zq.zN zx 1 hh rfl rfl rfl rfl rfl rfl rfl rfl rfl ?_;intro s hh)|(refine zq.zN zx 2 hh rfl rfl rfl rfl rfl rfl rfl rfl rfl ?_;intro s hh))|(refine kZ ?_;refine' zq.XK zx rfl rfl rfl rfl rfl rfl rfl rfl hh ?_ ?_ ?_;rotate_left 2 ;(focus ((repeat' first|(exact xE.sK rfl rfl));done)) ;(focus ((repeat' first|(exact jM.of rfl));done)) ;intro s n hh)|(refine zy 76 ?_;first|(refine zq.qc 1 rfl rfl VZ hh rfl rfl ?_ (vC hb rfl (by simp)) ?_;(focus (first | assumption | omega)) ;intro s x i h hq hi hh ;try dsimp only))|(refine zy 68 ?_;first|(refine zq.qc 0 rfl rfl wU hh rfl rfl ?_ (qg hb (by omega)) ?_;(focus (first | assumption | omega)) ;intro s x i h hq hi hh ;try dsimp only)|(refine zq.qc 1 rfl rfl wU hh rfl rfl ?_ (qg hb (by omega)) ?_;(focus (first | assumption | omega)) ;intro s x i h hq hi hh ;try dsimp only))|(refine zy 45 ?_;first|(refine zq.qc 0 rfl rfl XC hh rfl rfl ?_ (jg hb) ?_;(focus (first | assumption | omega)) ;intro s x i h hq hi hh ;try dsimp only))|(refine zf ?_;first|(refine zq.nil ?_)|(refine zq.ev zx rfl ?_)|(refine zy 117 ?_;first|(refine zq.ans (zk.ze rfl rfl rfl (Dz) (eP _ _)) ?_))|(refine zy 118 ?_;first|(refine zq.ans (zk.ze rfl rfl rfl (Dq) (eT _ _)) ?_))|(refine zy 119 ?_;first|(refine zq.ans (zk.ze rfl rfl rfl (Dx) (gQ _ _)) ?_)))|(refine zH ?_;first|(refine WL.seq ?_)|(refine WL.region (by kernel_rfl) ?_)|(refine WL.block ?_)|(refine WL.skip ?_)|(refine WL.ret ?_)|(refine zu ?_;first|(refine WL.cond rfl (fun h=>?_) (fun h=>?_))))|(refine zw ?_)|(refine zZ ?_)|(refine zQ ?_)|(refine zB ?_)|(refine' zh.r1 (r := .cell 4 45) (.inl rfl) ?_ ?_;rotate_left 1;(focus (first|(exact zn.xM 1 zx hh rfl rfl rfl rfl)|(exact zn.xM 2 zx hh rfl rfl rfl rfl))))
 all_goals
   apply bN.fin (x:=⟨_,_,_⟩) (hh:=hh)
   case hv=>first | exact Val.vg _ _ _ | rfl
   case hs=>(first|(refine zK.cons 0 rfl rfl ?_)|(refine zK.cons 1 rfl rfl ?_)|(refine zK.cons 2 rfl rfl ?_)|(refine zK.cons 3 rfl rfl ?_)|(refine zK.cons 4 rfl rfl ?_)|(refine zK.cons 5 rfl rfl ?_)|(refine zK.cons 6 rfl rfl ?_)|(refine zK.cons 7 rfl rfl ?_));(repeat' first|(exact zK.refl _)|(refine zK.drop ?_))
   case hi=>first | assumption | omega |(simp;omega)
   case hp=>first | exact Nat.zero_le _ |(show List.length _≤2;simp at hq;rcases hq with rfl | rfl | rfl | rfl <;> simp)
theorem eX {b:V} (hb:Bytes b) (k:Int):bN Tryz.prog 113 b [.int .i64 k] Val.zF (fun v=>v.text.length≤2):=by
 intro s H l i h hi hh
 refine zi.jX Tryz.func113 rfl (by kernel_rfl) ?_
 repeat' first|(refine qj ?_;refine zq.kR zx hh rfl rfl ?_;intro s n hh)|(refine zU ?_;first|(refine zq.zN zx 0 hh rfl rfl rfl rfl rfl rfl rfl rfl rfl ?_;intro s hh)|(refine zq.zN zx 2 hh rfl rfl rfl rfl rfl rfl rfl rfl rfl ?_;intro s hh)|(refine zq.zN zx 3 hh rfl rfl rfl rfl rfl rfl rfl rfl rfl ?_;intro s hh))|(refine kZ ?_;refine' zq.XK zx rfl rfl rfl rfl rfl rfl rfl rfl hh ?_ ?_ ?_;rotate_left 2 ;(focus ((repeat' first|(exact xE.sK rfl rfl));done)) ;(focus ((repeat' first|(exact jM.of rfl));done)) ;intro s n hh)|(refine zy 80 ?_;first|(refine zq.qc 2 rfl rfl Es hh rfl rfl ?_ (uG hb rfl (by simp)) ?_;(focus (first | assumption | omega)) ;intro s x i h hq hi hh ;try dsimp only))|(refine zy 124 ?_;first|(refine zq.qc 1 rfl rfl Lj hh rfl rfl ?_ (Qv hb _) ?_;(focus (first | assumption | omega)) ;intro s x i h hq hi hh ;try dsimp only))|(refine zf ?_;first|(refine zq.nil ?_)|(refine zq.ev zx rfl ?_)|(refine zo ?_;first|(refine zq.ans (zk.zM zx 0 hh rfl rfl rfl rfl) ?_)|(refine zq.ans (zk.zM zx 2 hh rfl rfl rfl rfl) ?_)))|(refine zH ?_;first|(refine WL.seq ?_)|(refine WL.region (by kernel_rfl) ?_)|(refine WL.skip ?_)|(refine WL.ret ?_)|(refine zu ?_;first|(refine WL.cond rfl (fun h=>?_) (fun h=>?_))))|(refine zw ?_)|(refine' zh.r1 (r := .cell 4 45) (.inl rfl) ?_ ?_;rotate_left 1;(focus (first|(exact zn.xM 2 zx hh rfl rfl rfl rfl)|(exact zn.xM 3 zx hh rfl rfl rfl rfl))))
 all_goals
   apply bN.fin (x:=⟨_,_,_⟩) (hh:=hh)
   case hv=>first | exact Val.vg _ _ _ | rfl
   case hs=>(first|(refine zK.cons 0 rfl rfl ?_)|(refine zK.cons 1 rfl rfl ?_)|(refine zK.cons 2 rfl rfl ?_)|(refine zK.cons 3 rfl rfl ?_)|(refine zK.cons 4 rfl rfl ?_)|(refine zK.cons 5 rfl rfl ?_)|(refine zK.cons 6 rfl rfl ?_)|(refine zK.cons 7 rfl rfl ?_));(repeat' first|(exact zK.refl _)|(refine zK.drop ?_))
   case hi=>first | assumption | omega |(simp;omega)
   case hp=>first | assumption | omega
def Fy (r:List Int):V := .sl 0 (r.map iV)
abbrev bf (env:List (List Int)):V := .sl 0 (env.map Fy)
def Li (env:List (List Int)):Prop:=env.length≤1000∧∀ r∈env,r.length≤1000
set_option maxHeartbeats 1000000 in
theorem oz {b:V} (hb:Bytes b) {env:List (List Int)} (he:Li env) (ty:Int):PE.D Tryz.prog 114 b [bf env,.int .i64 ty] (fun e=>qV e.v≤2):=by
 intro s H l i h hi hh
 replace hh:Hold s s.next (.cell l (vw b i h)::H):=hh
 obtain ⟨he1,he2⟩:=he
 refine zi.jX Tryz.func114 rfl (by kernel_rfl) ?_
 repeat' first|(refine qj ?_;refine zq.kR zx hh rfl rfl ?_;intro s n hh)|(refine zU ?_;first|(refine zq.zN zx 0 hh rfl rfl rfl rfl rfl rfl rfl rfl rfl ?_;intro s hh))|(refine zy 113 ?_;first|(refine zq.qc 1 rfl rfl Aw hh rfl rfl ?_ (eX hb _) ?_;(focus (first | assumption | omega)) ;intro s x i h hq hi hh ;try dsimp only))|(refine zf ?_;first|(refine zq.nil ?_)|(refine' zq.ans (v := .agg _) (zk.jV zx rfl rfl rfl rfl ?_) ?_;rotate_left 1;(focus ((repeat' first|(exact Fills.nil)|(refine' Fills.cons rfl rfl rfl rfl ?_));done)))|(refine zq.ev zx rfl ?_))|(refine zH ?_;first|(refine WL.seq ?_)|(refine WL.region (by kernel_rfl) ?_)|(refine WL.block ?_))|(refine zw ?_)
 obtain ⟨m,rfl⟩:∃ m,m=n:=⟨n,rfl⟩
 refine WL.yw (fun y:Nat × Nat × (Int × Val × Int × Int) × Int × Int=>env.length - y.1) (fun y=>[(0,.ptr l 0),(1,bf env),(2,.int .i64 ty),(6,.ptr n 0),(7,.int .i64 (y.2.1:Int)),(8,.ptr m 0),(9,.int .i64 (y.1:Int))])
   (fun y => .cell m [.int .i64 y.2.2.1.1,.int .i64 0,.bool false,.int .i64 y.2.2.1.2.1.kind,.int .i64 y.2.2.1.2.1.num,.str y.2.2.1.2.1.text,.int .i64 y.2.2.1.2.2.1,.int .i64 y.2.2.1.2.2.2,.qJ (.is 0) 0 0 0,.qJ (.is 0) 0 0 0] :: .cell l (vw b y.2.2.2.1 y.2.2.2.2) :: .cell n [.int .i64 0,.int .i64 0,.bool false,.int .i64 0,.int .i64 0,.str [],.int .i64 0,.int .i64 0,.zl,.zl]::H)
   (fun y=>((y.1≤env.length∧y.2.1≤1000*y.1)∧y.2.2.1.2.1.text.length≤2)∧0≤y.2.2.2.1) (0,0,(1,x,0,0),i,h) ⟨⟨⟨Nat.zero_le _,Nat.zero_le _⟩,hq⟩,hi⟩ ⟨rfl,rfl,rfl,rfl,rfl,rfl,rfl,trivial⟩ hh (zK.refl _) (fun y s hI hh=>?_)
 obtain ⟨up,k,⟨qk,qv,qu,qp⟩,i,h⟩:=y
 obtain ⟨⟨⟨hI1,hI2⟩,Po⟩,hi⟩:=hI
 dsimp only at hI1 hI2 Po hi hh ⊢
 rcases Nat.lt_or_ge up env.length with hlt | hge
 · have hga : (env.map Fy)[up]? = some (.sl 0 (env[up].map iV)) := by simp [hlt, Fy]
   have hrl:=he2 env[up] (List.getElem_mem hlt)
   generalize env[up]=row at hga hrl
   repeat' first|(refine zf ?_;first|(refine zq.nil ?_)|(refine zq.ev zx rfl ?_)|(refine qx ?_;first|(refine zq.ans (zk.z8 zx rfl rfl rfl) ?_)))|(refine zH ?_;first|(refine WL.seq ?_)|(refine WL.region (by kernel_rfl) ?_)|(refine WL.block ?_)|(refine WL.skip ?_)|(refine zu ?_;first|(refine WL.zJ rfl ?_ ?_;(focus (first|(simp <;> omega))))))|(refine zw ?_)
   refine WL.yw (fun y:Nat × Nat × (Int × Val × Int × Int) × Int × Int=>row.length - y.1) (fun y=>[(0,.ptr l 0),(1,bf env),(2,.int .i64 ty),(6,.ptr n 0),(7,.int .i64 (y.2.1:Int)),(8,.ptr m 0),(9,.int .i64 (up:Int)),(10,.int .i64 (y.1:Int))])
     (fun y => .cell m [.int .i64 y.2.2.1.1,.int .i64 0,.bool false,.int .i64 y.2.2.1.2.1.kind,.int .i64 y.2.2.1.2.1.num,.str y.2.2.1.2.1.text,.int .i64 y.2.2.1.2.2.1,.int .i64 y.2.2.1.2.2.2,.qJ (.is 0) 0 0 0,.qJ (.is 0) 0 0 0] :: .cell l (vw b y.2.2.2.1 y.2.2.2.2) :: .cell n [.int .i64 0,.int .i64 0,.bool false,.int .i64 0,.int .i64 0,.str [],.int .i64 0,.int .i64 0,.zl,.zl]::H)
     (fun y=>((y.1≤row.length∧y.2.1≤1000*up+y.1)∧y.2.2.1.2.1.text.length≤2)∧0≤y.2.2.2.1) (0,k,(qk,qv,qu,qp),i,h) ⟨⟨⟨Nat.zero_le _,hI2⟩,Po⟩,hi⟩ ⟨rfl,rfl,rfl,rfl,rfl,rfl,rfl,rfl,trivial⟩ hh (zK.refl _) (fun y s hI hh=>?_)
   obtain ⟨at',k2,⟨pk,pv,pu,pp⟩,i2,h2⟩:=y
   obtain ⟨⟨⟨OA,hJ2⟩,hpt⟩,hi2⟩:=hI
   dsimp only at OA hJ2 hpt hi2 hh ⊢
   rcases Nat.lt_or_ge at' row.length with hlt2 | Qw
   · have hgb : (row.map iV)[at']? = some (.int .i64 row[at']) := by simp [hlt2, iV]
     generalize row[at']=z at hgb
     repeat' first|(refine zU ?_;first|(refine zq.zN zx 1 hh rfl rfl rfl rfl rfl rfl rfl rfl rfl ?_;intro s hh))|(refine zy 68 ?_;first|(refine zq.qc 1 rfl rfl wU hh rfl rfl ?_ (qg hb (by omega)) ?_;(focus (first | assumption | omega)) ;intro s x i h hq hi hh ;try dsimp only))|(refine zf ?_;first|(refine zq.nil ?_)|(refine' zq.ans (v := .agg _) (zk.jV zx rfl rfl rfl rfl ?_) ?_;rotate_left 1;(focus ((repeat' first|(exact Fills.nil)|(refine' Fills.cons rfl rfl rfl rfl ?_));done)))|(refine zq.ev zx rfl ?_)|(refine qx ?_;first|(refine zq.ans (zk.z8 zx rfl rfl rfl) ?_))|(refine xk ?_;first|(refine zq.ans (zk.add rfl rfl ?_) ?_;(focus (constructor <;> omega))))|(refine xw ?_;first|(refine zq.ans (zk.idx zx rfl rfl rfl rfl rfl hga rfl rfl) ?_)|(refine zq.ans (zk.idx zx rfl rfl rfl rfl rfl hgb rfl rfl) ?_)))|(refine zH ?_;first|(refine WL.seq ?_)|(refine WL.region (by kernel_rfl) ?_)|(refine WL.block ?_)|(refine WL.skip ?_)|(refine zu ?_;first|(refine WL.zJ rfl ?_ ?_;(focus (first|(simp <;> omega))))|(refine WL.cond rfl (fun h=>?_) (fun h=>?_))))|(refine zw ?_)|(refine zQ ?_)
     · have hs := hh.sel (.cons 1 rfl rfl (zK.refl _))
       refine kW.of (at'+1,k2+1,(2,⟨0,0,[]⟩,(up:Int),(at':Int)),i,_) ?_ hs (zK.refl _) ⟨⟨⟨hlt2,by dsimp only;omega⟩,Nat.zero_le _⟩,by assumption⟩ (by dsimp only;omega)
       repeat' first | exact qz.nil |(refine qz.mk rfl ?_ ?_) | rfl |(simp;done)|(simp;omega)
     · have hs := hh.sel (.cons 1 rfl rfl (zK.refl _))
       refine kW.of (at'+1,k2+1,(pk,pv,pu,pp),i,_) ?_ hs (zK.refl _) ⟨⟨⟨hlt2,by dsimp only;omega⟩,hpt⟩,by assumption⟩ (by dsimp only;omega)
       repeat' first | exact qz.nil |(refine qz.mk rfl ?_ ?_) | rfl |(simp;done)|(simp;omega)
     · have hs := hh.sel (zK.refl _)
       refine kW.of (at'+1,k2,(pk,pv,pu,pp),i2,_) ?_ hs (zK.refl _) ⟨⟨⟨hlt2,by dsimp only;omega⟩,hpt⟩,by assumption⟩ (by dsimp only;omega)
       repeat' first | exact qz.nil |(refine qz.mk rfl ?_ ?_) | rfl |(simp;done)|(simp;omega)
   · skip
     repeat' first|(refine zf ?_;first|(refine zq.nil ?_)|(refine zq.ev zx rfl ?_)|(refine qx ?_;first|(refine zq.ans (zk.z8 zx rfl rfl rfl) ?_))|(refine xk ?_;first|(refine zq.ans (zk.add rfl rfl ?_) ?_;(focus (constructor <;> omega))))|(refine xw ?_;first|(refine zq.ans (zk.idx zx rfl rfl rfl rfl rfl hga rfl rfl) ?_)))|(refine zH ?_;first|(refine WL.seq ?_)|(refine WL.region (by kernel_rfl) ?_)|(refine WL.exit ?_)|(refine zu ?_;first|(refine WL.zY rfl ?_ ?_;(focus (first|(simp <;> omega))))))|(refine zw ?_)|(refine zC ?_)|(refine zQ ?_)|(refine zV ?_)|(refine ko ?_)
     refine kW.of (up+1,k2,(pk,pv,pu,pp),i2,h2) ⟨rfl,rfl,rfl,rfl,rfl,rfl,rfl,trivial⟩ hh (zK.refl _) ⟨⟨⟨hlt,by dsimp only;omega⟩,hpt⟩,hi2⟩ (by dsimp only;omega)
 · skip
   repeat' first|(refine zU ?_;first|(refine zq.zN zx 2 hh rfl rfl rfl rfl rfl rfl rfl rfl rfl ?_;intro s hh))|(refine zf ?_;first|(refine zq.nil ?_)|(refine zq.ev zx rfl ?_)|(refine zo ?_;first|(refine zq.ans (zk.zM zx 0 hh rfl rfl rfl rfl) ?_))|(refine qx ?_;first|(refine zq.ans (zk.z8 zx rfl rfl rfl) ?_)))|(refine zH ?_;first|(refine WL.seq ?_)|(refine WL.region (by kernel_rfl) ?_)|(refine WL.exit ?_)|(refine WL.ret ?_)|(refine zu ?_;first|(refine WL.zY rfl ?_ ?_;(focus (first|(simp <;> omega))))))|(refine zw ?_)|(refine zC ?_)|(refine zV ?_)|(refine ko ?_)|(refine' zh.r1 (r := .cell 6 48) (.inl rfl) ?_ ?_;rotate_left 1;(focus (first|(exact zn.xM 2 zx hh rfl rfl rfl rfl))))
   replace hh:=hh.vR.vR
   apply jl.fin (y:=(PE.mk qk 0 false qv qu qp [] [],fun _=>(0,0))) (hh:=hh)
   case hv=>rfl
   case hi=>assumption
   case hs =>
     dsimp only [PE.ob,List.cons_append,List.nil_append]
     (repeat' first|(exact zK.nil)|(exact zK.refl _)|(refine' zK.p ?_ ?_;rotate_left 1;(focus (((repeat' first|(exact Pick.here)|(refine' Pick.there ?_));done)))))
     (repeat' first|(exact zK.refl _)|(refine zK.drop ?_))
   case hp =>
     dsimp only
     rw [PE.qC]
     simp only [PE.value,PE.kids,PE.sub,wK,uV,List.length_nil]
     omega
end Go.Proofs.YtolhegocbkckdaaGreat
