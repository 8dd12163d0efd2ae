/-
 Plans drawn from a string of bytes. Own work; no condition.
-/
import Derived.Test.YtolhegocbkckdaaGreatDPd4
namespace Go.Proofs.YtolhegocbkckdaaGreat
open Go
set_option linter.unusedSimpArgs false
set_option linter.unusedVariables false
def f6 (a b c d e f:Nat × Nat):Nat→Nat × Nat
 | 0=>a
 | 1=>b
 | 2=>c
 | 3=>d
 | 4=>e
 | _=>f
def wP:Nat:=64+6*wE 3
theorem PL.lens {p:PL} {n:Nat} (h:qV p.v≤n):p.tables.length≤n∧p.on.length≤n∧p.xO.length≤n∧p.order.length≤n∧p.items.length≤n∧p.names.length≤n:=by
 have e:=PL.qC p
 have h1:=xW iV p.tables
 have h2:=xW PE.vS p.on
 have h3:=xW PE.zF p.xO
 have h4:=xW PE.sv p.order
 have h5:=xW PE.zF p.items
 have h6:=xW sV p.names
 omega
theorem jl.mono {P:Program} {g:FuncId} {b:V} {args:List V} {H0:List BE} {β : Type} {F : β → V} {B : β → List BE} {p q : β → Prop} (h:jl P g b args H0 F B p) (hpq:∀ y,p y→q y):jl P g b args H0 F B q:=fun s H l i c hi hh =>
 VCalls.mono (h s H l i c hi hh) fun v t ⟨y,s',i',h',h1,h2⟩=>⟨y,s',i',h',hpq y h1,h2⟩
theorem nT {b:V} (hb:Bytes b):PL.D Tryz.prog 41 b [b] (fun p=>qV p.v≤wP+2000):=by
 obtain ⟨n,hn2,RX,hsz⟩:=nS hb
 have hn0:0<n:=by omega
 have hp:∀ deep:Int,0≤deep∧deep≤n - 1→jl Tryz.prog 72 b [.int .i64 deep] [] PL.ov PL.ob (fun w=>qV w.1.v≤wP∧0<w.1.items.length∧w.1.tables.length≤100000∧w.1.on.length≤100000∧w.1.xO.length≤100000∧w.1.order.length≤100000∧w.1.items.length≤100000∧w.1.names.length≤100000):=fun deep hd =>
   (lK hb (w:=wE 3) (lJ hb 3 deep (by omega) (by omega) (by omega)) ⟨by omega,by omega⟩).mono fun w hw=>⟨hw.1,hw.2,PL.lens (Nat.le_trans hw.1 (by decide))⟩
 intro s H l i h hi hh
 refine zi.jX Tryz.func41 rfl (by kernel_rfl) ?_
 repeat' first|(refine qj ?_;refine zq.kR zx hh rfl rfl ?_;intro s n hh)|(refine zU ?_;first|(refine zq.zN zx 0 hh rfl rfl rfl rfl rfl rfl rfl rfl rfl ?_;intro s hh)|(refine zq.zN zx 2 hh rfl rfl rfl rfl rfl rfl rfl rfl rfl ?_;intro s hh)|(refine zq.zN zx 8 hh rfl rfl rfl rfl rfl rfl rfl rfl rfl ?_;intro s hh))|(refine kZ ?_;first|(refine' zq.Z7 (d:=37) zx rfl rfl rfl rfl rfl rfl rfl rfl hh ?_ ?_ ?_;rotate_left 2 ;(focus ((repeat' first|(exact qw.nil)|(exact qm.qP rfl)|(exact qm.jS)|(refine' qw.cons ?_ ?_)|(refine' qm.agg ?_));done)) ;(focus ((repeat' first|(exact jM.of rfl));done)) ;intro s n hh)|(refine zq.ans (zk.Zb zx rfl rfl rfl rfl rfl rfl rfl rfl ?_) ?_;(focus ((repeat' first|(exact jM.of rfl));done))))|(refine ji ?_;first|(refine' zq.appW zx 2 rfl rfl rfl rfl rfl rfl rfl rfl rfl rfl hh ?_ ?_ ?_ (xU.of ?_ rfl) ?_;rotate_left 2 ;(focus (first|(intro x hx;obtain ⟨y,_,rfl⟩:=List.mem_map.1 hx;first | rfl | exact PE.qA _ | exact PE.xC _))) ;(focus ((repeat' first|(exact qw.nil)|(exact qm.qP rfl)|(refine' qw.cons ?_ ?_));done)) ;(focus ((repeat' first|(exact zS.of rfl));done)) ;(focus (first | omega |(simp ;omega))) ;intro s c n hh)|(refine' zq.appW zx 4 rfl rfl rfl rfl rfl rfl rfl rfl rfl rfl hh ?_ ?_ ?_ (xU.of ?_ rfl) ?_;rotate_left 2 ;(focus (first|(intro x hx;obtain ⟨y,_,rfl⟩:=List.mem_map.1 hx;first | rfl | exact PE.qA _ | exact PE.xC _))) ;(focus ((repeat' first|(exact qw.nil)|(exact qm.qP rfl)|(exact qm.jS)|(refine' qm.op ?_;((repeat' first|(exact Pick.here)|(refine' Pick.there ?_));done))|(refine' qw.cons ?_ ?_)|(refine' qm.agg ?_));done)) ;(focus ((repeat' first|(exact zS.of rfl));done)) ;(focus (first | omega |(simp ;omega))) ;intro s c n hh)|(refine' zq.appW zx 7 rfl rfl rfl rfl rfl rfl rfl rfl rfl rfl hh ?_ ?_ ?_ (xU.of ?_ rfl) ?_;rotate_left 2 ;(focus (first|(intro x hx;obtain ⟨y,_,rfl⟩:=List.mem_map.1 hx;first | rfl | exact PE.qA _ | exact PE.xC _))) ;(focus ((repeat' first|(exact qw.nil)|(exact qm.qP rfl)|(refine' qw.cons ?_ ?_));done)) ;(focus ((repeat' first|(exact zS.of rfl));done)) ;(focus (first | omega |(simp ;omega))) ;intro s c n hh))|(refine zy 38 ?_;first|(refine zq.qc 1 rfl rfl vE hh rfl rfl ?_ (zP hb (by omega)) ?_;(focus (first | assumption | omega)) ;intro s x i h hq hi hh ;try dsimp only)|(refine zq.qc 7 rfl rfl vE hh rfl rfl ?_ (zP hb (by omega)) ?_;(focus (first | assumption | omega)) ;intro s x i h hq hi hh ;try dsimp only))|(refine zy 45 ?_;first|(refine zq.qc 0 rfl rfl XC hh rfl rfl ?_ (jg hb) ?_;(focus (first | assumption | omega)) ;intro s x i h hq hi hh ;try dsimp only))|(refine zy 44 ?_;first|(refine zq.qc 0 rfl rfl BL hh rfl rfl ?_ (bB hb) ?_;(focus (first | assumption | omega)) ;intro s x i h hq hi hh ;try dsimp only))|(refine zy 72 ?_;first|(refine zq.jF 0 rfl rfl En hh (hp _ (by assumption)) .nil rfl rfl ?_ ?_;(focus (first | assumption | omega)) ;intro s y i h hq hi hh ;try dsimp only [List.cons_append,List.nil_append] at hh))|(refine zf ?_;first|(refine zq.nil ?_)|(refine' zq.ans (v := .agg _) (zk.jV zx rfl rfl rfl rfl ?_) ?_;rotate_left 1;(focus ((repeat' first|(exact Fills.nil));done)))|(refine zq.ev zx rfl ?_)|(refine zo ?_;first|(refine zq.ans (zk.zM zx 1 hh rfl rfl rfl rfl) ?_)|(refine zq.ans (zk.zM zx 2 hh rfl rfl rfl rfl) ?_))|(refine zy 39 ?_;first|(refine zq.ans (zk.ze rfl rfl rfl (G9) (hsz _)) ?_)))|(refine zH ?_;first|(refine WL.seq ?_)|(refine WL.region (by kernel_rfl) ?_)|(refine WL.drawn (id:=4) [0,1,2,3,4,5,6,7] [3,5,7] [[],[0],[],[2],[2,3],[0,1,2,3,4],[0,1,2,3,4,5],[0,1,2,3,4,5,6]] (by kernel_rfl) (by kernel_rfl) ?_)|(refine WL.drawn (id:=6) [0,1,2,3,4,5,6,7] [3,5,7] [[],[0],[],[2],[2,3],[0,1,2,3,4],[0,1,2,3,4,5],[0,1,2,3,4,5,6]] (by kernel_rfl) (by kernel_rfl) ?_)|(refine WL.drawn (id:=12) [0,1,2,3,4,5,6,7,8] [3,6,8] [[],[0],[],[2],[2,3],[2,3,4],[0,1,2,3,4,5],[0,1,2,3,4,5,6],[0,1,2,3,4,5,6,7]] (by kernel_rfl) (by kernel_rfl) ?_)|(refine WL.block ?_)|(refine WL.skip ?_)|(refine WL.ret ?_)|(refine zu ?_;first|(refine WL.cond rfl (fun h=>?_) (fun h=>?_))))|(refine vN ?_;first|(refine zA.nil ?_)|(refine' zA.fl (v := .agg _) rfl rfl (zk.jV zx rfl rfl rfl rfl ?_) ?_;rotate_left 1;(focus ((repeat' first|(exact Fills.nil)|(refine' Fills.cons rfl rfl rfl rfl ?_));done)))|(refine zA.fl rfl rfl (.ev zx rfl) ?_)|(refine zA.fl rfl rfl (zk.fD zx rfl rfl rfl rfl rfl rfl rfl rfl rfl) ?_)|(refine qo rfl ?_;first|(refine zA.fl rfl rfl (zk.zM zx 1 hh rfl rfl rfl rfl) ?_))|(refine zA.iY rfl rfl rfl ?_))|(refine zw ?_)|(refine zQ ?_)|(refine' zh.r1 (r := .cell 4 33) (.inl rfl) ?_ ?_;rotate_left 1;(focus (first|(exact zn.xM 8 zx hh rfl rfl rfl rfl))))|(refine And.intro ?_ ?_)|(exact xR.nil)|(refine xR.cons ?_ ?_)|(refine jG.fl rfl rfl (.ev zx rfl))|(refine jG.fl rfl rfl (zk.zM zx 1 hh rfl rfl rfl rfl))
 · have hw := (by assumption : qV y.1.v ≤ wP ∧ 0 < y.1.items.length ∧ y.1.tables.length ≤ 100000 ∧ y.1.on.length ≤ 100000 ∧ y.1.xO.length ≤ 100000 ∧ y.1.order.length ≤ 100000 ∧ y.1.items.length ≤ 100000 ∧ y.1.names.length ≤ 100000)
   have e1:∀ v:V,(y.1.tables.map iV).length+[v].length=(y.1.tables++[x]).length:=fun v=>by simp
   have e2:y.1.tables.map iV++[iV x]=(y.1.tables++[x]).map iV:=by
     rw [List.map_append]
     rfl
   rw [e1,e2] at hh
   rw [e1]
   apply jl.fin (y:=(⟨y.1.tables++[x],y.1.on,y.1.xO,y.1.order,y.1.items,y.1.names,y.1.distinct,y.1.limit⟩,f6 (c,n) (y.2 1) (y.2 2) (y.2 3) (y.2 4) (y.2 5))) (hh:=hh)
   case hv=>rfl
   case hi=>assumption
   case hs =>
     dsimp only [PL.ob,f6,List.cons_append,List.nil_append]
     (repeat' first|(exact zK.nil)|(exact zK.refl _)|(refine' zK.p ?_ ?_;rotate_left 1;(focus (((repeat' first|(exact Pick.here)|(refine' Pick.there ?_));done)))))
     (repeat' first|(exact zK.refl _)|(refine zK.drop ?_))
   case hp =>
     dsimp only
     rw [PL.qC]
     have e3:=PL.qC y.1
     dsimp only
     rw [dJ]
     have e4:qV (iV (x))≤21:=by first|(simp [iV,sV,PE.vS,qV,wJ,PE.qK,PE.v,PE.kids,PE.sub,PE.value];done)|(simp [iV,sV,PE.vS,qV,wJ,PE.qK,PE.v,PE.kids,PE.sub,PE.value];omega)
     omega
 · have hw := (by assumption : qV y.1.v ≤ wP ∧ 0 < y.1.items.length ∧ y.1.tables.length ≤ 100000 ∧ y.1.on.length ≤ 100000 ∧ y.1.xO.length ≤ 100000 ∧ y.1.order.length ≤ 100000 ∧ y.1.items.length ≤ 100000 ∧ y.1.names.length ≤ 100000)
   have e1:∀ v:V,(y.1.names.map sV).length+[v].length=(y.1.names++[x]).length:=fun v=>by simp
   have e2:y.1.names.map sV++[V.str x]=(y.1.names++[x]).map sV:=by
     rw [List.map_append]
     rfl
   rw [e1,e2] at hh
   rw [e1]
   apply jl.fin (y:=(⟨y.1.tables,y.1.on,y.1.xO,y.1.order,y.1.items,y.1.names++[x],y.1.distinct,y.1.limit⟩,f6 (y.2 0) (y.2 1) (y.2 2) (y.2 3) (y.2 4) (c,n))) (hh:=hh)
   case hv=>rfl
   case hi=>assumption
   case hs =>
     dsimp only [PL.ob,f6,List.cons_append,List.nil_append]
     (repeat' first|(exact zK.nil)|(exact zK.refl _)|(refine' zK.p ?_ ?_;rotate_left 1;(focus (((repeat' first|(exact Pick.here)|(refine' Pick.there ?_));done)))))
     (repeat' first|(exact zK.refl _)|(refine zK.drop ?_))
   case hp =>
     dsimp only
     rw [PL.qC]
     have e3:=PL.qC y.1
     dsimp only
     rw [dJ]
     have e4:qV (sV (x))≤21:=by first|(simp [iV,sV,PE.vS,qV,wJ,PE.qK,PE.v,PE.kids,PE.sub,PE.value];done)|(simp [iV,sV,PE.vS,qV,wJ,PE.qK,PE.v,PE.kids,PE.sub,PE.value];omega)
     omega
 · have hw := (by assumption : qV y.1.v ≤ wP ∧ 0 < y.1.items.length ∧ y.1.tables.length ≤ 100000 ∧ y.1.on.length ≤ 100000 ∧ y.1.xO.length ≤ 100000 ∧ y.1.order.length ≤ 100000 ∧ y.1.items.length ≤ 100000 ∧ y.1.names.length ≤ 100000)
   have e1:∀ v:V,(y.1.on.map PE.vS).length+[v].length=(y.1.on++[[PE.mk 0 0 false ⟨0,0,[]⟩ 0 0 [] []]]).length:=fun v=>by simp
   have e2:y.1.on.map PE.vS++[V.sl 0 [V.agg [.int .i64 0,.int .i64 0,.bool false,.int .i64 0,.int .i64 0,.str [],.int .i64 0,.int .i64 0,.sl 0 [],.sl 0 []]]]=(y.1.on++[[PE.mk 0 0 false ⟨0,0,[]⟩ 0 0 [] []]]).map PE.vS:=by
     rw [List.map_append]
     simp [PE.vS,PE.qK,PE.v,PE.kind,PE.op,PE.nt,PE.value,PE.up,PE.pos,PE.kids,PE.sub]
   rw [e1,e2] at hh
   rw [e1]
   apply jl.fin (y:=(⟨y.1.tables,y.1.on++[[PE.mk 0 0 false ⟨0,0,[]⟩ 0 0 [] []]],y.1.xO,y.1.order,y.1.items,y.1.names,y.1.distinct,y.1.limit⟩,f6 (y.2 0) (c,n) (y.2 2) (y.2 3) (y.2 4) (y.2 5))) (hh:=hh)
   case hv=>rfl
   case hi=>assumption
   case hs =>
     dsimp only [PL.ob,f6,List.cons_append,List.nil_append]
     (repeat' first|(exact zK.nil)|(exact zK.refl _)|(refine' zK.p ?_ ?_;rotate_left 1;(focus (((repeat' first|(exact Pick.here)|(refine' Pick.there ?_));done)))))
     (repeat' first|(exact zK.refl _)|(refine zK.drop ?_))
   case hp =>
     dsimp only
     rw [PL.qC]
     have e3:=PL.qC y.1
     dsimp only
     rw [dJ]
     have e4:qV (PE.vS ([PE.mk 0 0 false ⟨0,0,[]⟩ 0 0 [] []]))≤21:=by first|(simp [iV,sV,PE.vS,qV,wJ,PE.qK,PE.v,PE.kids,PE.sub,PE.value];done)|(simp [iV,sV,PE.vS,qV,wJ,PE.qK,PE.v,PE.kids,PE.sub,PE.value];omega)
     omega
 · have hw := (by assumption : qV y.1.v ≤ wP ∧ 0 < y.1.items.length ∧ y.1.tables.length ≤ 100000 ∧ y.1.on.length ≤ 100000 ∧ y.1.xO.length ≤ 100000 ∧ y.1.order.length ≤ 100000 ∧ y.1.items.length ≤ 100000 ∧ y.1.names.length ≤ 100000)
   obtain ⟨p,f⟩:=y
   dsimp only at hw hh
   obtain ⟨e,es,hit⟩:∃ e es,p.items=e::es:=by
     cases hp2:p.items with
     | nil=>rw [hp2] at hw;simp at hw
     | cons e es=>exact ⟨e,es,rfl⟩
   have hmp:p.items.map PE.zF=[]++e.zF::es.map PE.zF:=by rw [hit];rfl
   have hcl:∀ x∈([]:List V)++e.zF::es.map PE.zF,x.cells.length=10:=by
     rw [← hmp]
     intro x hx
     obtain ⟨y,_,rfl⟩:=List.mem_map.1 hx
     exact PE.qA y
   have hkl:0<p.items.length:=hw.2.1
   have Dc:qV e.v≤wP:=by
     have h1:=PL.nH (p:=p) (k:=e) (qZ.yS (by rw [hit];simp))
     rw [PE.qK] at h1
     omega
   rw [hmp] at hh
   obtain ⟨A,Z,u,rest,hA,hr,hnc,hn,hh⟩:=Hold.lq 10 (hh.sel (.cons 6 rfl rfl (zK.refl _))) hcl
   have hA:(V.flat A).length=0*10:=hA
   obtain ⟨w2,rfl,hh⟩:=PE.rY (hh.sel (.cons 1 rfl rfl (zK.refl _)))
   dsimp only [PE.ob,List.cons_append,List.nil_append] at hh
   have hB:=lV hb _ (e,w2) (Nat.lt_succ_self _) (Nat.le_trans Dc (by decide))
   repeat' first|(refine zy 42 ?_;first|(refine' zq.jF 3 rfl rfl Ei hh (hB) ?_ ?_ ?_ ?_ ?_;rotate_left 4 ;(focus ((repeat' first|(exact Takes.nil)|(apply Takes.p;(focus (((repeat' first|(exact Pick.here));done)))));done)) ;(focus rfl) ;(focus rfl) ;(focus (first | assumption | omega)) ;intro s y i h hq hi hh ;try dsimp only [List.cons_append,List.nil_append] at hh))|(refine zU ?_;first|(refine zq.ak (q:=0*10) zx 3 0 hh rfl rfl hA rfl rfl rfl rfl rfl rfl rfl rfl rfl ?_;intro s hh))|(refine zf ?_;first|(refine zq.nil ?_)|(refine zo ?_;first|(refine zq.ans (zk.zM zx 6 hh rfl rfl rfl rfl) ?_)))|(refine zH ?_;first|(refine WL.seq ?_)|(refine WL.region (by kernel_rfl) ?_)|(refine WL.drawn (id:=10) [0,1,2,3,4,5,6,7,8,9] [7,9] [[],[0],[],[],[3],[3,4],[3,4,5],[2,3,4,5,6],[0,1,2,3,4,5,6,7],[0,1,2,3,4,5,6,7,8]] (by kernel_rfl) (by kernel_rfl) ?_))|(refine vN ?_;first|(refine zA.nil ?_)|(refine zA.fl rfl rfl (.ev zx rfl) ?_)|(refine qo rfl ?_;first|(refine zA.fl rfl rfl (zk.zM zx 6 hh rfl rfl rfl rfl) ?_)|(refine zA.fl rfl rfl (zk.pJ (q:=0*10) zx 2 0 hh rfl rfl hA rfl rfl rfl rfl) ?_))|(refine kQ rfl ?_;first|(refine zA.fl rfl rfl (zk.Ea (j:=0) zx rfl rfl rfl rfl rfl hkl) ?_))|(refine zA.iY rfl rfl rfl ?_))|(refine zw ?_)|(refine zQ ?_)|(refine And.intro ?_ ?_)|(exact xR.nil)|(refine xR.cons ?_ ?_)|(refine jG.fl rfl rfl (.ev zx rfl))|(refine jG.fl rfl rfl (zk.zM zx 6 hh rfl rfl rfl rfl))
   have h1:=PE.own (w:=y) hh
   have h2:=h1.sel (.cons 2 rfl rfl (.cons 0 rfl rfl (.cons 1 rfl rfl (.cons 1 rfl rfl (zK.refl _)))))
   have hnl:([]:List V)++y.1.zF::es.map PE.zF=(y.1::es).map PE.zF:=rfl
   have h3:=Hold.QG 10 h2 rfl (by
     rw [hnl]
     intro x hx
     obtain ⟨y,_,rfl⟩:=List.mem_map.1 hx
     exact PE.qA y) hr hnc (by rw [hn];rfl)
   rw [hnl] at h3
   replace hh:=h3
   have hl:p.items.length=(y.1::es).length:=by rw [hit];rfl
   have hwi:qV (.sl 0 ((y.1::es).map PE.zF))≤qV (.sl 0 (p.items.map PE.zF))+1000:=by
     rw [hit]
     dsimp only at hq
     simp only [List.map_cons,PE.qK,qV,wJ,List.length_cons]
     omega
   rw [hl] at hh ⊢
   clear h1 h2 h3 hnl hl
   repeat' first|(refine zU ?_;first|(refine zq.zN zx 8 hh rfl rfl rfl rfl rfl rfl rfl rfl rfl ?_;intro s hh))|(refine zf ?_;first|(refine zq.nil ?_))|(refine zH ?_;first|(refine WL.ret ?_))|(refine zw ?_)|(refine' zh.r1 (r := .cell 4 33) (.inl rfl) ?_ ?_;rotate_left 1;(focus (first|(exact zn.xM 8 zx hh rfl rfl rfl rfl))))
   apply jl.fin (y:=(⟨p.tables,p.on,p.xO,p.order,y.1::es,p.names,p.distinct,p.limit⟩,f6 (f 0) (f 1) (f 2) (f 3) (f 4) (f 5))) (hh:=hh)
   case hv=>rfl
   case hi=>assumption
   case hs =>
     dsimp only [PL.ob,f6,List.cons_append,List.nil_append]
     (repeat' first|(exact zK.nil)|(exact zK.refl _)|(refine' zK.p ?_ ?_;rotate_left 1;(focus (((repeat' first|(exact Pick.here)|(refine' Pick.there ?_));done)))))
     (repeat' first|(exact zK.refl _)|(refine zK.drop ?_))
   case hp =>
     dsimp only
     rw [PL.qC]
     have e3:=PL.qC p
     dsimp only
     omega
 · have hw := (by assumption : qV y.1.v ≤ wP ∧ 0 < y.1.items.length ∧ y.1.tables.length ≤ 100000 ∧ y.1.on.length ≤ 100000 ∧ y.1.xO.length ≤ 100000 ∧ y.1.order.length ≤ 100000 ∧ y.1.items.length ≤ 100000 ∧ y.1.names.length ≤ 100000)
   have e1:∀ v:V,(y.1.xO.map PE.zF).length+[v].length=(y.1.xO++[PE.mk x 0 false ⟨0,0,[]⟩ 0 0 [] []]).length:=fun v=>by simp
   have e2:y.1.xO.map PE.zF++[V.agg [.int .i64 x,.int .i64 0,.bool false,.int .i64 0,.int .i64 0,.str [],.int .i64 0,.int .i64 0,.sl 0 [],.sl 0 []]]=(y.1.xO++[PE.mk x 0 false ⟨0,0,[]⟩ 0 0 [] []]).map PE.zF:=by
     rw [List.map_append]
     simp [PE.vS,PE.qK,PE.v,PE.kind,PE.op,PE.nt,PE.value,PE.up,PE.pos,PE.kids,PE.sub]
   rw [e1,e2] at hh
   rw [e1]
   apply jl.fin (y:=(⟨y.1.tables,y.1.on,y.1.xO++[PE.mk x 0 false ⟨0,0,[]⟩ 0 0 [] []],y.1.order,y.1.items,y.1.names,y.1.distinct,y.1.limit⟩,f6 (y.2 0) (y.2 1) (c,n) (y.2 3) (y.2 4) (y.2 5))) (hh:=hh)
   case hv=>rfl
   case hi=>assumption
   case hs =>
     dsimp only [PL.ob,f6,List.cons_append,List.nil_append]
     (repeat' first|(exact zK.nil)|(exact zK.refl _)|(refine' zK.p ?_ ?_;rotate_left 1;(focus (((repeat' first|(exact Pick.here)|(refine' Pick.there ?_));done)))))
     (repeat' first|(exact zK.refl _)|(refine zK.drop ?_))
   case hp =>
     dsimp only
     rw [PL.qC]
     have e3:=PL.qC y.1
     dsimp only
     rw [dJ]
     have e4:qV (PE.zF (PE.mk x 0 false ⟨0,0,[]⟩ 0 0 [] []))≤21:=by first|(simp [iV,sV,PE.vS,qV,wJ,PE.qK,PE.v,PE.kids,PE.sub,PE.value];done)|(simp [iV,sV,PE.vS,qV,wJ,PE.qK,PE.v,PE.kids,PE.sub,PE.value];omega)
     omega
 · have hw := (by assumption : qV y.1.v ≤ wP ∧ 0 < y.1.items.length ∧ y.1.tables.length ≤ 100000 ∧ y.1.on.length ≤ 100000 ∧ y.1.xO.length ≤ 100000 ∧ y.1.order.length ≤ 100000 ∧ y.1.items.length ≤ 100000 ∧ y.1.names.length ≤ 100000)
   apply jl.fin (y:=y) (hh:=hh)
   case hv=>rfl
   case hi=>assumption
   case hs =>
     dsimp only [PL.ob,List.cons_append,List.nil_append]
     (repeat' first|(exact zK.nil)|(exact zK.refl _)|(refine' zK.p ?_ ?_;rotate_left 1;(focus (((repeat' first|(exact Pick.here)|(refine' Pick.there ?_));done)))))
     (repeat' first|(exact zK.refl _)|(refine zK.drop ?_))
   case hp=>omega
end Go.Proofs.YtolhegocbkckdaaGreat
