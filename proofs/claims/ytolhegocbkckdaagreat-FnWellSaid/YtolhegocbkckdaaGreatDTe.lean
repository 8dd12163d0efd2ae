/-
 A catalog and a plan, well typed or nearly so, drawn from a string of bytes. Own work; no condition.
-/
import Derived.Test.YtolhegocbkckdaaGreatDTd9
namespace Go.Proofs.YtolhegocbkckdaaGreat
open Go
set_option linter.unusedSimpArgs false
set_option linter.unusedVariables false
def QN (y:List Tab × (PL × (Nat→Nat × Nat))):Prop:=((0<y.1.length∧y.1.length≤3)∧∀ t∈y.1,t.small)∧qV y.2.1.v≤64+8*wT 3∧(0<y.2.1.tables.length∧0<y.2.1.on.length)∧0<y.2.1.items.length∧0<y.2.1.names.length
set_option maxHeartbeats 8000000 in
theorem Qb {b:V} (hb:Bytes b):Lh Tryz.prog 15 [b] (fun y:Nat × List Tab × (PL × (Nat→Nat × Nat)) × Int × Int => .jY [.ptr y.1 0,wW y.2.1,PL.ov y.2.2.1]) (fun y=>PL.ob y.2.2.1++[.cell y.1 (vw b y.2.2.2.1 y.2.2.2.2)])
   (fun y=>(y.2.1.length≤5∧∀ t∈y.2.1,t.mid)∧qV y.2.2.1.1.v≤30000):=by
 obtain ⟨nz,hn2,RX,hsz⟩:=nS hb
 have hn0:0<nz:=by omega
 have hR:∀ deep:Int,0≤deep∧deep≤3→jl Tryz.prog 37 b [.int .i64 deep] [] (fun y:List Tab × (PL × (Nat→Nat × Nat)) => .jY [wW y.1,PL.ov y.2]) (fun y=>PL.ob y.2) QN:=fun deep h=>ZX hb (n:=3) h (by omega)
 intro s H hh
 refine zi.jX Tryz.func15 rfl (by kernel_rfl) ?_
 repeat' first|(refine qj ?_;refine zq.kR zx hh rfl rfl ?_;intro s n hh)|(refine zU ?_;first|(refine zq.zN zx 0 hh rfl rfl rfl rfl rfl rfl rfl rfl rfl ?_;intro s hh)|(refine zq.zN zx 1 hh rfl rfl rfl rfl rfl rfl rfl rfl rfl ?_;intro s hh))|(refine zy 36 ?_;refine zq.Bo rfl rfl N7 hh (Jd hb) ?_;intro s m h hh)|(refine zy 38 ?_;first|(refine zq.qc 0 rfl rfl vE hh rfl rfl ?_ (zP hb (by omega)) ?_;(focus (first | assumption | omega)) ;intro s x i h hq hi hh ;try dsimp only)|(refine zq.qc 8 rfl rfl vE hh rfl rfl ?_ (zP hb (by omega)) ?_;(focus (first | assumption | omega)) ;intro s x i h hq hi hh ;try dsimp only))|(refine zy 37 ?_;first|(refine zq.jF 0 rfl rfl N8 hh (hR _ ⟨by omega,by omega⟩) .nil rfl rfl ?_ ?_;(focus (first | assumption | omega)) ;intro s y i h hq hi hh ;try dsimp only [List.cons_append,List.nil_append] at hh))|(refine zf ?_;first|(refine zq.nil ?_)|(refine zq.ev zx rfl ?_)|(refine zy 39 ?_;first|(refine zq.ans (zk.ze rfl rfl rfl (G9) (hsz _)) ?_)))|(refine zH ?_;first|(refine WL.seq ?_)|(refine WL.region (by kernel_rfl) ?_)|(refine WL.block ?_))|(refine zw ?_)
 rename_i r3 _ _ r4 _ _ _ _ _ _ _ _ _ _ _ _ _ _ _ _ _ _ n6 _ _ _ _ _ _ _
 have hy0:QN y:=by assumption
 have Ck:qV y.2.1.v≤20000:=Nat.le_trans hy0.2.1 (by decide)
 have hmid:y.1.length≤5∧∀ t∈y.1,t.mid:=⟨Nat.le_trans hy0.1.1.2 (by omega),fun t ht=>(hy0.1.2 t ht).mid⟩
 obtain ⟨n7,rfl⟩:∃ q,q=n:=⟨n,rfl⟩
 obtain ⟨y0,rfl⟩:∃ q,q=y:=⟨y,rfl⟩
 refine WL.YP (fun z:List Tab × (PL × (Nat→Nat × Nat)) × Int × Int=>[(3,.ptr r3 0),(4,.ptr r4 0),(5,.ptr m 0),(6,.ptr n6 0),(7,.ptr n7 0)])
   (fun z => .cell n7 [.qJ (.is (z.2.1.2 0).1) (z.2.1.2 0).2 0 z.2.1.1.tables.length,.qJ (.is (z.2.1.2 1).1) (z.2.1.2 1).2 0 z.2.1.1.on.length,.qJ (.is (z.2.1.2 2).1) (z.2.1.2 2).2 0 z.2.1.1.xO.length,.qJ (.is (z.2.1.2 3).1) (z.2.1.2 3).2 0 z.2.1.1.order.length,.qJ (.is (z.2.1.2 4).1) (z.2.1.2 4).2 0 z.2.1.1.items.length,.qJ (.is (z.2.1.2 5).1) (z.2.1.2 5).2 0 z.2.1.1.names.length,.bool z.2.1.1.distinct,.int .i64 z.2.1.1.limit] :: .cell n6 [.sl 0 (z.1.map Tab.zF)]::(PL.ob z.2.1++(.cell m (vw b z.2.2.1 z.2.2.2) :: .cell r3 [.zl] :: .cell r4 [.zl,.zl,.zl,.zl,.zl,.zl,.bool false,.int .i64 0]::H)))
   (fun z=>((z.1.length≤5∧∀ t∈z.1,t.mid)∧qV z.2.1.1.v≤30000)∧0≤z.2.2.1) ?_ (fun z s hI hh=>?_)
 rotate_left 1
 · obtain ⟨ts, w, i, h⟩ := z
   obtain ⟨hI,hi⟩:=hI
   dsimp only [PL.ob,List.cons_append,List.nil_append] at hI hi hh ⊢
   repeat' first|(refine zU ?_;first|(refine zq.zN zx 9 hh rfl rfl rfl rfl rfl rfl rfl rfl rfl ?_;intro s hh)|(refine zq.zN zx 10 hh rfl rfl rfl rfl rfl rfl rfl rfl rfl ?_;intro s hh))|(refine zf ?_;first|(refine zq.nil ?_))|(refine zH ?_;first|(refine WL.seq ?_)|(refine WL.drawn (id:=20) [0,1,2,3,4,5] [4,5] [[],[],[],[0],[0,1,3],[0,1,2,3,4]] (by kernel_rfl) (by kernel_rfl) ?_)|(refine WL.ret ?_))|(refine vN ?_;first|(refine zA.nil ?_)|(refine zA.fl rfl rfl (.ev zx rfl) ?_)|(refine qo rfl ?_;first|(refine zA.fl rfl rfl (zk.zM zx 0 hh rfl rfl rfl rfl) ?_)|(refine zA.fl rfl rfl (zk.zM zx 1 hh rfl rfl rfl rfl) ?_))|(refine zA.iY rfl rfl rfl ?_))|(refine zw ?_)|(refine zQ ?_)|(refine' zh.r3 (r := .tmp 2) (r' := .cell 3 26) (r'' := .cell 4 33) (.inl rfl) (zn.tmp rfl) ?_ ?_ ?_;rotate_left 2;(focus (first|(exact zn.xM 9 zx hh rfl rfl rfl rfl)));(focus (first|(exact zn.xM 10 zx hh rfl rfl rfl rfl))))|(refine And.intro ?_ ?_)|(exact xR.nil)|(refine xR.cons ?_ ?_)|(refine jG.fl rfl rfl (zk.zM zx 0 hh rfl rfl rfl rfl))
   refine ⟨(m,ts,w,i,h),s,hI,rfl,rfl,hh.sel ?_⟩
   · skip
     dsimp only [PL.ob,List.cons_append,List.nil_append]
     (repeat' first|(exact zK.nil)|(exact zK.refl _)|(refine' zK.p ?_ ?_;rotate_left 1;(focus (((repeat' first|(exact Pick.here)|(refine' Pick.there ?_));done)))))
     all_goals (repeat' first|(exact zK.refl _)|(refine zK.drop ?_))
 repeat' first|(refine zU ?_;first|(refine zq.zN zx 1 hh rfl rfl rfl rfl rfl rfl rfl rfl rfl ?_;intro s hh)|(refine zq.zN zx 2 hh rfl rfl rfl rfl rfl rfl rfl rfl rfl ?_;intro s hh)|(refine zq.zN zx 7 hh rfl rfl rfl rfl rfl rfl rfl rfl rfl ?_;intro s hh))|(refine kZ ?_;first|(refine' zq.Z7 (d:=45) zx rfl rfl rfl rfl rfl rfl rfl rfl hh ?_ ?_ ?_;rotate_left 2 ;(focus ((repeat' first|(exact qw.nil)|(exact qm.qP rfl)|(refine' qm.op ?_;((repeat' first|(exact Pick.here)|(refine' Pick.there ?_));done))|(refine' qw.cons ?_ ?_)|(refine' qm.agg ?_));done)) ;(focus ((repeat' first|(exact jM.of rfl));done)) ;intro s n hh)|(refine' zq.Z7 (d:=71) zx rfl rfl rfl rfl rfl rfl rfl rfl hh ?_ ?_ ?_;rotate_left 2 ;(focus ((repeat' first|(exact qw.nil)|(exact qm.qP rfl)|(exact qm.jS)|(refine' qw.cons ?_ ?_)|(refine' qm.agg ?_));done)) ;(focus ((repeat' first|(exact jM.of rfl));done)) ;intro s n hh))|(refine zy 45 ?_;first|(refine zq.qc 0 rfl rfl XC hh rfl rfl ?_ (jg hb) ?_;(focus (first | assumption | omega)) ;intro s x i h hq hi hh ;try dsimp only))|(refine zy 40 ?_;first|(refine zq.qc 0 rfl rfl N9 hh rfl rfl ?_ (Qa hb) ?_;(focus (first | assumption | omega)) ;intro s x i h hq hi hh ;try dsimp only))|(refine zy 41 ?_;first|(refine zq.jF 0 rfl rfl Oz hh (nT hb) .nil rfl rfl ?_ ?_;(focus (first | assumption | omega)) ;intro s y i h hq hi hh ;try dsimp only [List.cons_append,List.nil_append] at hh))|(refine zy 43 ?_;first|(refine zq.jF 0 rfl rfl U9 hh (lJ hb 2 _ (by omega) (by omega) (by omega)) .nil rfl rfl ?_ ?_;(focus (first | assumption | omega)) ;intro s y i h hq hi hh ;try dsimp only [List.cons_append,List.nil_append] at hh))|(refine zf ?_;first|(refine zq.nil ?_)|(refine' zq.ans (v := .agg _) (zk.jV zx rfl rfl rfl rfl ?_) ?_;rotate_left 1;(focus ((repeat' first|(exact Fills.nil)|(refine' Fills.cons rfl rfl rfl rfl ?_));done)))|(refine zq.ev zx rfl ?_)|(refine zo ?_;first|(refine zq.ans (zk.zM zx 1 hh rfl rfl rfl rfl) ?_)))|(refine zH ?_;first|(refine WL.seq ?_)|(refine WL.region (by kernel_rfl) ?_)|(refine WL.skip ?_)|(refine zu ?_;first|(refine WL.cond rfl (fun h=>?_) (fun h=>?_))))|(refine zw ?_)
 · skip
   have hq2:x.length≤5∧∀ t∈x,t.mid:=hq
   have hw3:qV y0.2.1.v≤30000:=by omega
   all_goals
     refine' bE.of ((x,y0.2,_,_)) ?_ hh ?_ ?_
     rotate_left 2
     · repeat' first | exact qz.nil |(refine qz.mk rfl ?_ ?_) | rfl |(simp [] <;> fail)|(simp [];omega)
     · dsimp only;(repeat' first|(exact zK.nil)|(exact zK.refl _)|(refine' zK.p ?_ ?_;rotate_left 1;(focus (((repeat' first|(exact Pick.here)|(refine' Pick.there ?_));done)))))
     · dsimp only;repeat' first | exact trivial | assumption | omega |(refine And.intro ?_ ?_) | rfl |(simp [] <;> fail)
 · skip
   have hw3:qV y.1.v≤30000:=Nat.le_trans hq (by decide)
   replace hh:=(hh.sel (.cons 0 rfl rfl (.cons 0 rfl rfl (.cons 0 rfl rfl (.cons 0 rfl rfl (.cons 0 rfl rfl (.cons 0 rfl rfl (.cons 0 rfl rfl (.cons 0 rfl rfl (.cons 0 rfl rfl (.drop (.drop (.drop (.drop (.drop (.drop (zK.refl _)))))))))))))))))
   all_goals
     refine' bE.of ((y0.1,y,_,_)) ?_ hh ?_ ?_
     rotate_left 2
     · repeat' first | exact qz.nil |(refine qz.mk rfl ?_ ?_) | rfl |(simp [] <;> fail)|(simp [];omega)
     · dsimp only;(repeat' first|(exact zK.nil)|(exact zK.refl _)|(refine' zK.p ?_ ?_;rotate_left 1;(focus (((repeat' first|(exact Pick.here)|(refine' Pick.there ?_));done)))))
     · dsimp only;repeat' first | exact trivial | assumption | omega |(refine And.intro ?_ ?_) | rfl |(simp [] <;> fail)
 · skip
   obtain ⟨ts,⟨⟨tb,on,wh,od,it,nm,ds,lm⟩,f⟩⟩:=y0
   dsimp only at hh Ck hmid
   unfold QN at hy0
   dsimp only at hy0
   have hwq:=PL.qC (⟨tb,on,wh,od,it,nm,ds,lm⟩:PL)
   cases it with
   | nil=>simp at hy0
   | cons e es =>
     have hkl:0<(e::es).length:=by simp
     have hcl:∀ e:PE,∀ x∈([]:List V)++e.zF::es.map PE.zF,x.cells.length=10:=by
       intro e x hx
       obtain ⟨y,_,rfl⟩:=List.mem_map.1 (show x∈(e::es).map PE.zF from hx)
       exact PE.qA y
     have Dc:qV e.v≤20000:=by
       have h1:=PL.nH (p:=⟨tb,on,wh,od,e::es,nm,ds,lm⟩) (k:=e) (qZ.yS (by simp))
       rw [PE.qK] at h1
       omega
     obtain ⟨A,Z,u,rest,hA,hr,hnc,hn,hh⟩:=Hold.lq (dA:=[]) (d:=e.zF) (dZ:=es.map PE.zF) 10 (hh.sel (.cons 7 rfl rfl (zK.refl _))) (hcl e)
     have hA:(V.flat A).length=0*10:=hA
     obtain ⟨w2,rfl,hh⟩:=PE.rY (hh.sel (.cons 1 rfl rfl (zK.refl _)))
     dsimp only [PE.ob,List.cons_append,List.nil_append] at hh
     have hB:=lV hb _ (e,w2) (Nat.lt_succ_self _) (Nat.le_trans Dc (by decide))
     repeat' first|(refine zy 42 ?_;first|(refine' zq.jF 3 rfl rfl Ei hh (hB) ?_ ?_ ?_ ?_ ?_;rotate_left 4 ;(focus ((repeat' first|(exact Takes.nil)|(apply Takes.p;(focus (((repeat' first|(exact Pick.here));done)))));done)) ;(focus rfl) ;(focus rfl) ;(focus (first | assumption | omega)) ;intro s y i h hq hi hh ;try dsimp only [List.cons_append,List.nil_append] at hh))|(refine zU ?_;first|(refine zq.ak (q:=0*10) zx 3 0 hh rfl rfl hA rfl rfl rfl rfl rfl rfl rfl rfl rfl ?_;intro s hh))|(refine zf ?_;first|(refine zq.nil ?_))|(refine zH ?_;first|(refine WL.drawn (id:=9) [0,1,2,3,4,5,6,7,8,9] [7,9] [[],[0],[],[],[3],[3,4],[3,4,5],[2,3,4,5,6],[0,1,2,3,4,5,6,7],[0,1,2,3,4,5,6,7,8]] (by kernel_rfl) (by kernel_rfl) ?_))|(refine vN ?_;first|(refine zA.nil ?_)|(refine zA.fl rfl rfl (.ev zx rfl) ?_)|(refine qo rfl ?_;first|(refine zA.fl rfl rfl (zk.zM zx 6 hh rfl rfl rfl rfl) ?_)|(refine zA.fl rfl rfl (zk.pJ (q:=0*10) zx 2 0 hh rfl rfl hA rfl rfl rfl rfl) ?_))|(refine kQ rfl ?_;first|(refine zA.fl rfl rfl (zk.X3 (j:=0) zx rfl rfl rfl rfl rfl hkl rfl) ?_))|(refine zA.iY rfl rfl rfl ?_))|(refine And.intro ?_ ?_)|(exact xR.nil)|(refine xR.cons ?_ ?_)|(refine jG.fl rfl rfl (.ev zx rfl))|(refine jG.fl rfl rfl (zk.zM zx 6 hh rfl rfl rfl rfl))
     have h1:=PE.own (w:=y) hh
     have h2:=h1.sel (.cons 2 rfl rfl (.cons 0 rfl rfl (.cons 1 rfl rfl (.cons 1 rfl rfl (zK.refl _)))))
     have h3:=Hold.QG (n:=(e::es).length) 10 h2 rfl (hcl y.1) hr hnc (by rw [hn];rfl)
     replace hh:Hold s s.next (.own (.qJ _ _ 0 (y.1::es).length) (.sl 0 ((y.1::es).map PE.zF))::_):=h3
     have hw3:qV (PL.v ⟨tb,on,wh,od,y.1::es,nm,ds,lm⟩)≤30000:=by
       rw [PL.qC]
       dsimp only at hwq hq ⊢
       have e1:qV (.sl 0 ((y.1::es).map PE.zF))≤qV (.sl 0 ((e::es).map PE.zF))+1000:=by
         simp only [List.map_cons,PE.qK,qV,wJ,List.length_cons]
         omega
       omega
     all_goals
       refine' bE.of ((ts,(⟨tb,on,wh,od,y.1::es,nm,ds,lm⟩,f),_,_)) ?_ hh ?_ ?_
       rotate_left 2
       · repeat' first | exact qz.nil |(refine qz.mk rfl ?_ ?_) | rfl |(simp [] <;> fail)|(simp [];omega)
       · dsimp only;(repeat' first|(exact zK.nil)|(exact zK.refl _)|(refine' zK.p ?_ ?_;rotate_left 1;(focus (((repeat' first|(exact Pick.here)|(refine' Pick.there ?_));done)))))
       · dsimp only;repeat' first | exact trivial | assumption | omega |(refine And.intro ?_ ?_) | rfl |(simp [] <;> fail)
 · skip
   have e:[y.1].map PE.zF=[PE.v y.1]:=by simp only [List.map_cons,List.map_nil,PE.qK]
   have Da:Hold s s.next (.own (.qJ (.is 1) n 0 1) (.sl 0 [PE.v y.1])::_):=hh
   rw [← e] at Da
   replace hh:=Da
   have hw3:qV (PL.v ⟨y0.2.1.tables,y0.2.1.on,[y.1],y0.2.1.order,y0.2.1.items,y0.2.1.names,y0.2.1.distinct,y0.2.1.limit⟩)≤30000:=by
     have hwq:=PL.qC y0.2.1
     have hqq:qV y.1.v≤300:=Nat.le_trans hq (by decide)
     rw [PL.qC]
     dsimp only
     have e1:qV (.sl 0 [PE.v y.1])=1+qV y.1.v:=by simp only [qV,wJ,List.length_cons,List.length_nil];omega
     rw [e,e1]
     omega
   replace hh:=(hh.sel (.cons 0 rfl rfl (.cons 0 rfl rfl (.cons 0 rfl rfl (.cons 0 rfl rfl (.cons 0 rfl rfl (.cons 0 rfl rfl (.drop (zK.refl _)))))))))
   all_goals
     refine' bE.of ((y0.1,(⟨y0.2.1.tables,y0.2.1.on,[y.1],y0.2.1.order,y0.2.1.items,y0.2.1.names,y0.2.1.distinct,y0.2.1.limit⟩,f6 (y0.2.2 0) (y0.2.2 1) (1,n) (y0.2.2 3) (y0.2.2 4) (y0.2.2 5)),_,_)) ?_ hh ?_ ?_
     rotate_left 2
     · repeat' first | exact qz.nil |(refine qz.mk rfl ?_ ?_) | rfl |(simp [] <;> fail)|(simp [];omega)
     · dsimp only;(repeat' first|(exact zK.nil)|(exact zK.refl _)|(refine' zK.p ?_ ?_;rotate_left 1;(focus (((repeat' first|(exact Pick.here)|(refine' Pick.there ?_));done)))))
     · dsimp only;repeat' first | exact trivial | assumption | omega |(refine And.intro ?_ ?_) | rfl |(simp [] <;> fail)
 · skip
   obtain ⟨ts,⟨⟨tb,on,wh,od,it,nm,ds,lm⟩,f⟩⟩:=y0
   dsimp only at hh Ck hmid
   unfold QN at hy0
   dsimp only at hy0
   have hwq:=PL.qC (⟨tb,on,wh,od,it,nm,ds,lm⟩:PL)
   cases nm with
   | nil=>simp at hy0
   | cons q qs =>
     have hkl:0<(q::qs).length:=by simp
     have hcl:∀ q:List UInt8,∀ x∈([]:List V)++sV q::qs.map sV,x.cells.length=1:=by
       intro q x hx
       obtain ⟨y,_,rfl⟩:=List.mem_map.1 (show x∈(q::qs).map sV from hx)
       rfl
     obtain ⟨A,Z,u,rest,hA,hr,hnc,hn,hh⟩:=Hold.lq (dA:=[]) (d:=sV q) (dZ:=qs.map sV) 1 (hh.sel (.cons 8 rfl rfl (zK.refl _))) (hcl q)
     have hA:(V.flat A).length=0*1:=hA
     obtain rfl:=(hh.sel (.cons 1 rfl rfl (zK.refl _))).Vn rfl
     repeat' first|(refine zy 44 ?_;first|(refine zq.qc 4 rfl rfl BL hh rfl rfl ?_ (bB hb) ?_;(focus (first | assumption | omega)) ;intro s x i h hq hi hh ;try dsimp only))|(refine zU ?_;first|(refine zq.ak (q:=0*1) zx 1 0 hh rfl rfl hA rfl rfl rfl rfl rfl rfl rfl rfl rfl ?_;intro s hh))|(refine zf ?_;first|(refine zq.nil ?_))|(refine zH ?_;first|(refine WL.drawn (id:=13) [0,1,2,3,4,5] [3,5] [[],[0],[],[2],[0,1,2,3],[0,1,2,3,4]] (by kernel_rfl) (by kernel_rfl) ?_))|(refine vN ?_;first|(refine zA.nil ?_)|(refine zA.fl rfl rfl (.ev zx rfl) ?_)|(refine qo rfl ?_;first|(refine zA.fl rfl rfl (zk.zM zx 5 hh rfl rfl rfl rfl) ?_))|(refine kQ rfl ?_;first|(refine zA.fl rfl rfl (zk.X3 (j:=0) zx rfl rfl rfl rfl rfl hkl rfl) ?_))|(refine zA.iY rfl rfl rfl ?_))|(refine And.intro ?_ ?_)|(exact xR.nil)|(refine xR.cons ?_ ?_)|(refine jG.fl rfl rfl (.ev zx rfl))|(refine jG.fl rfl rfl (zk.zM zx 5 hh rfl rfl rfl rfl))
     have h2:=(hh.pack (v:=sV x) (d:=sV x) (.qP rfl)).sel (.cons 2 rfl rfl (.cons 0 rfl rfl (.cons 2 rfl rfl (.cons 2 rfl rfl (zK.refl _)))))
     have h3:=Hold.QG (n:=(q::qs).length) 1 h2 rfl (hcl x) hr hnc (by rw [hn];rfl)
     replace hh:Hold s s.next (.own (.qJ _ _ 0 (x::qs).length) (.sl 0 ((x::qs).map sV))::_):=h3
     have hw3:qV (PL.v ⟨tb,on,wh,od,it,x::qs,ds,lm⟩)≤30000:=by
       rw [PL.qC]
       dsimp only at hwq ⊢
       have e1:qV (.sl 0 ((x::qs).map sV))≤qV (.sl 0 ((q::qs).map sV))+30:=by
         simp only [List.map_cons,qV,wJ,List.length_cons,List.length_map,sV]
         omega
       omega
     replace hh:=(hh.sel (.cons 0 rfl rfl (.cons 0 rfl rfl (.drop (zK.refl _)))))
     all_goals
       refine' bE.of ((ts,(⟨tb,on,wh,od,it,x::qs,ds,lm⟩,f),_,_)) ?_ hh ?_ ?_
       rotate_left 2
       · repeat' first | exact qz.nil |(refine qz.mk rfl ?_ ?_) | rfl |(simp [] <;> fail)|(simp [];omega)
       · dsimp only;(repeat' first|(exact zK.nil)|(exact zK.refl _)|(refine' zK.p ?_ ?_;rotate_left 1;(focus (((repeat' first|(exact Pick.here)|(refine' Pick.there ?_));done)))))
       · dsimp only;repeat' first | exact trivial | assumption | omega |(refine And.intro ?_ ?_) | rfl |(simp [] <;> fail)
 · skip
   have hw3:qV (PL.v ⟨y0.2.1.tables,y0.2.1.on,y0.2.1.xO,y0.2.1.order,y0.2.1.items,y0.2.1.names,y0.2.1.distinct,x⟩)≤30000:=by
     have hwq:=PL.qC y0.2.1
     rw [PL.qC]
     dsimp only
     omega
   all_goals
     refine' bE.of ((y0.1,(⟨y0.2.1.tables,y0.2.1.on,y0.2.1.xO,y0.2.1.order,y0.2.1.items,y0.2.1.names,y0.2.1.distinct,x⟩,y0.2.2),_,_)) ?_ hh ?_ ?_
     rotate_left 2
     · repeat' first | exact qz.nil |(refine qz.mk rfl ?_ ?_) | rfl |(simp [] <;> fail)|(simp [];omega)
     · dsimp only;(repeat' first|(exact zK.nil)|(exact zK.refl _)|(refine' zK.p ?_ ?_;rotate_left 1;(focus (((repeat' first|(exact Pick.here)|(refine' Pick.there ?_));done)))))
     · dsimp only;repeat' first | exact trivial | assumption | omega |(refine And.intro ?_ ?_) | rfl |(simp [] <;> fail)
 · skip
   obtain ⟨ts,⟨⟨tb,on,wh,od,it,nm,ds,lm⟩,f⟩⟩:=y0
   dsimp only at hh Ck hmid
   unfold QN at hy0
   dsimp only at hy0
   have hwq:=PL.qC (⟨tb,on,wh,od,it,nm,ds,lm⟩:PL)
   cases tb with
   | nil=>simp at hy0
   | cons q qs =>
     have hkl:0<(q::qs).length:=by simp
     have hcl:∀ q:Int,∀ x∈([]:List V)++iV q::qs.map iV,x.cells.length=1:=by
       intro q x hx
       obtain ⟨y,_,rfl⟩:=List.mem_map.1 (show x∈(q::qs).map iV from hx)
       rfl
     obtain ⟨A,Z,u,rest,hA,hr,hnc,hn,hh⟩:=Hold.lq (dA:=[]) (d:=iV q) (dZ:=qs.map iV) 1 (hh.sel (.cons 3 rfl rfl (zK.refl _))) (hcl q)
     have hA:(V.flat A).length=0*1:=hA
     obtain rfl:=(hh.sel (.cons 1 rfl rfl (zK.refl _))).Vn rfl
     repeat' first|(refine zy 45 ?_;first|(refine zq.qc 4 rfl rfl XC hh rfl rfl ?_ (jg hb) ?_;(focus (first | assumption | omega)) ;intro s x i h hq hi hh ;try dsimp only))|(refine zU ?_;first|(refine zq.ak (q:=0*1) zx 1 0 hh rfl rfl hA rfl rfl rfl rfl rfl rfl rfl rfl rfl ?_;intro s hh))|(refine zf ?_;first|(refine zq.nil ?_))|(refine zH ?_;first|(refine WL.drawn (id:=17) [0,1,2,3,4,5] [3,5] [[],[0],[],[2],[0,1,2,3],[0,1,2,3,4]] (by kernel_rfl) (by kernel_rfl) ?_))|(refine vN ?_;first|(refine zA.nil ?_)|(refine zA.fl rfl rfl (.ev zx rfl) ?_)|(refine qo rfl ?_;first|(refine zA.fl rfl rfl (zk.zM zx 5 hh rfl rfl rfl rfl) ?_))|(refine kQ rfl ?_;first|(refine zA.fl rfl rfl (zk.X3 (j:=0) zx rfl rfl rfl rfl rfl hkl rfl) ?_))|(refine zA.iY rfl rfl rfl ?_))|(refine And.intro ?_ ?_)|(exact xR.nil)|(refine xR.cons ?_ ?_)|(refine jG.fl rfl rfl (.ev zx rfl))|(refine jG.fl rfl rfl (zk.zM zx 5 hh rfl rfl rfl rfl))
     have h2:=(hh.pack (v:=iV x) (d:=iV x) (.qP rfl)).sel (.cons 2 rfl rfl (.cons 0 rfl rfl (.cons 2 rfl rfl (.cons 2 rfl rfl (zK.refl _)))))
     have h3:=Hold.QG (n:=(q::qs).length) 1 h2 rfl (hcl x) hr hnc (by rw [hn];rfl)
     replace hh:Hold s s.next (.own (.qJ _ _ 0 (x::qs).length) (.sl 0 ((x::qs).map iV))::_):=h3
     have hw3:qV (PL.v ⟨x::qs,on,wh,od,it,nm,ds,lm⟩)≤30000:=by
       rw [PL.qC]
       dsimp only at hwq ⊢
       have e1:qV (.sl 0 ((x::qs).map iV))≤qV (.sl 0 ((q::qs).map iV))+30:=by
         simp only [List.map_cons,qV,wJ,List.length_cons,List.length_map,iV]
         omega
       omega
     replace hh:=(hh.sel (.cons 0 rfl rfl (.cons 0 rfl rfl (.drop (zK.refl _)))))
     all_goals
       refine' bE.of ((ts,(⟨x::qs,on,wh,od,it,nm,ds,lm⟩,f),_,_)) ?_ hh ?_ ?_
       rotate_left 2
       · repeat' first | exact qz.nil |(refine qz.mk rfl ?_ ?_) | rfl |(simp [] <;> fail)|(simp [];omega)
       · dsimp only;(repeat' first|(exact zK.nil)|(exact zK.refl _)|(refine' zK.p ?_ ?_;rotate_left 1;(focus (((repeat' first|(exact Pick.here)|(refine' Pick.there ?_));done)))))
       · dsimp only;repeat' first | exact trivial | assumption | omega |(refine And.intro ?_ ?_) | rfl |(simp [] <;> fail)
 · skip
   obtain ⟨ts,⟨⟨tb,on,wh,od,it,nm,ds,lm⟩,f⟩⟩:=y0
   dsimp only at hh Ck hmid
   unfold QN at hy0
   dsimp only at hy0
   have hwq:=PL.qC (⟨tb,on,wh,od,it,nm,ds,lm⟩:PL)
   cases on with
   | nil=>simp at hy0
   | cons q qs =>
     have hkl:0<(q::qs).length:=by simp
     have hcl:∀ q:List PE,∀ x∈([]:List V)++PE.vS q::qs.map PE.vS,x.cells.length=1:=by
       intro q x hx
       obtain ⟨y,_,rfl⟩:=List.mem_map.1 (show x∈(q::qs).map PE.vS from hx)
       rfl
     have hlit:[PE.mk 1 0 false ⟨0,0,[]⟩ 0 0 [] []].map PE.zF=[PE.v (PE.mk 1 0 false ⟨0,0,[]⟩ 0 0 [] [])]:=by simp only [List.map_cons,List.map_nil,PE.qK]
     have Da:Hold s s.next (.own (.qJ (.is 1) n 0 1) (.sl 0 [PE.v (PE.mk 1 0 false ⟨0,0,[]⟩ 0 0 [] [])])::_):=hh
     rw [← hlit] at Da
     obtain ⟨A,Z,u,rest,hA,hr,hnc,hn,hh⟩:=Hold.lq (dA:=[]) (d:=PE.vS q) (dZ:=qs.map PE.vS) 1 (Da.sel (.cons 5 rfl rfl (zK.refl _))) (hcl q)
     have hA:(V.flat A).length=0*1:=hA
     obtain ⟨c9,l9,rfl,_⟩:=(hh.sel (.cons 1 rfl rfl (zK.refl _))).slc
     repeat' first|(refine zU ?_;first|(refine zq.ak (q:=0*1) zx 0 0 hh rfl rfl hA rfl rfl rfl rfl rfl rfl rfl rfl rfl ?_;intro s hh))|(refine zf ?_;first|(refine zq.nil ?_)|(refine xw ?_;first|(refine zq.ans (zk.X3 (j:=0) zx rfl rfl rfl rfl rfl hkl rfl) ?_)))
     have h2:=hh.sel (.cons 0 rfl rfl (.cons 3 rfl rfl (.cons 1 rfl rfl (.cons 1 rfl rfl (.drop (zK.refl _))))))
     have h3:=Hold.QG (u := .qJ (.is 1) n 0 1) (d:=PE.vS [PE.mk 1 0 false ⟨0,0,[]⟩ 0 0 [] []]) (n:=(q::qs).length) 1 h2 rfl (hcl [PE.mk 1 0 false ⟨0,0,[]⟩ 0 0 [] []]) hr hnc (by rw [hn];rfl)
     replace hh:Hold s s.next (.own (.qJ _ _ 0 ([PE.mk 1 0 false ⟨0,0,[]⟩ 0 0 [] []]::qs).length) (.sl 0 (([PE.mk 1 0 false ⟨0,0,[]⟩ 0 0 [] []]::qs).map PE.vS))::_):=h3
     have hw3:qV (PL.v ⟨tb,[PE.mk 1 0 false ⟨0,0,[]⟩ 0 0 [] []]::qs,wh,od,it,nm,ds,lm⟩)≤30000:=by
       rw [PL.qC]
       dsimp only at hwq ⊢
       have e1:qV (PE.vS [PE.mk 1 0 false ⟨0,0,[]⟩ 0 0 [] []])≤21:=by simp [PE.vS,qV,wJ,PE.qK,PE.v,PE.kids,PE.sub,PE.value]
       have e2:qV (.sl 0 (([PE.mk 1 0 false ⟨0,0,[]⟩ 0 0 [] []]::qs).map PE.vS))≤qV (.sl 0 ((q::qs).map PE.vS))+30:=by
         simp only [List.map_cons,qV,wJ,List.length_cons,List.length_map]
         omega
       omega
     all_goals
       refine' bE.of ((ts,(⟨tb,[PE.mk 1 0 false ⟨0,0,[]⟩ 0 0 [] []]::qs,wh,od,it,nm,ds,lm⟩,f),_,_)) ?_ hh ?_ ?_
       rotate_left 2
       · repeat' first | exact qz.nil |(refine qz.mk rfl ?_ ?_) | rfl |(simp [] <;> fail)|(simp [];omega)
       · dsimp only;(repeat' first|(exact zK.nil)|(exact zK.refl _)|(refine' zK.p ?_ ?_;rotate_left 1;(focus (((repeat' first|(exact Pick.here)|(refine' Pick.there ?_));done)))))
       · dsimp only;repeat' first | exact trivial | assumption | omega |(refine And.intro ?_ ?_) | rfl |(simp [] <;> fail)
 · skip
   have hw3:qV y0.2.1.v≤30000:=by omega
   all_goals
     refine' bE.of ((y0.1,y0.2,_,_)) ?_ hh ?_ ?_
     rotate_left 2
     · repeat' first | exact qz.nil |(refine qz.mk rfl ?_ ?_) | rfl |(simp [] <;> fail)|(simp [];omega)
     · dsimp only;(repeat' first|(exact zK.nil)|(exact zK.refl _)|(refine' zK.p ?_ ?_;rotate_left 1;(focus (((repeat' first|(exact Pick.here)|(refine' Pick.there ?_));done)))))
     · dsimp only;repeat' first | exact trivial | assumption | omega |(refine And.intro ?_ ?_) | rfl |(simp [] <;> fail)
theorem Za.RU {g:FuncId} {b:V} {α : Type} {f : α → List V} {p : α → Prop} (h:∀ (s:S) (H:List BE),Hold s s.next H→VCalls Tryz.prog g [b] (s.ext []) (fun v t=>∃ (x : α) (s':S) (vs:List V),p x∧v = .jY vs∧t=s'.ext []∧uY s' (.agg vs) (.agg (f x)) H)):Za Tryz.prog g b (fun x => .jY (f x)) p :=
 fun s H hh=>VCalls.Ll (h s H hh)
theorem iH {b:V} (hb:Bytes b):Za Tryz.prog 5 b (fun x:List Tab × PL => .jY [wW x.1,x.2.v]) (fun x=>(x.1.length≤5∧∀ t∈x.1,t.mid)∧qV x.2.v≤30000):=by
 refine Za.RU (f:=fun x:List Tab × PL=>[wW x.1,x.2.v]) fun s H hh=>?_
 refine zi.jX Tryz.func5 rfl (by kernel_rfl) ?_
 repeat' first|(refine qj ?_;refine zq.kR zx hh rfl rfl ?_;intro s n hh)|(refine zU ?_;first|(refine zq.zN zx 0 hh rfl rfl rfl rfl rfl rfl rfl rfl rfl ?_;intro s hh)|(refine zq.zN zx 1 hh rfl rfl rfl rfl rfl rfl rfl rfl rfl ?_;intro s hh)|(refine zq.zN zx 9 hh rfl rfl rfl rfl rfl rfl rfl rfl rfl ?_;intro s hh)|(refine zq.zN zx 10 hh rfl rfl rfl rfl rfl rfl rfl rfl rfl ?_;intro s hh))|(refine zy 15 ?_;refine zq.OU rfl rfl NS hh (Qb hb) ?_;intro s y RA hh ;try dsimp only [List.cons_append,List.nil_append] at hh)|(refine zf ?_;first|(refine zq.nil ?_)|(refine zq.ev zx rfl ?_))|(refine zH ?_;first|(refine WL.seq ?_)|(refine WL.region (by kernel_rfl) ?_)|(refine WL.drawn (id:=2) [0,1,2,3] [2,3] [[],[],[0],[0,1,2]] (by kernel_rfl) (by kernel_rfl) ?_)|(refine WL.ret ?_))|(refine vN ?_;first|(refine zA.nil ?_)|(refine qo rfl ?_;first|(refine zA.fl rfl rfl (zk.zM zx 0 hh rfl rfl rfl rfl) ?_)|(refine zA.fl rfl rfl (zk.zM zx 1 hh rfl rfl rfl rfl) ?_))|(refine zA.iY rfl rfl rfl ?_))|(refine zw ?_)|(refine' zh.r2 (r := .cell 2 26) (r' := .cell 3 33) (.inl rfl) ?_ ?_ ?_;rotate_left 2;(focus (first|(exact zn.xM 10 zx hh rfl rfl rfl rfl)));(focus (first|(exact zn.xM 9 zx hh rfl rfl rfl rfl))))|(refine And.intro ?_ ?_)|(exact xR.nil)|(refine xR.cons ?_ ?_)|(refine jG.fl rfl rfl (zk.zM zx 0 hh rfl rfl rfl rfl))
 refine' ⟨(y.2.1,y.2.2.1.1),_,_,RA,rfl,rfl,uY.pl (d:=y.2.2.1.1.v) [wW y.2.1] hh ?hc ?hs ?hp⟩
 case hc =>
   unfold PL.v
   ((repeat' first|(exact qw.nil)|(exact qm.qP rfl)|(exact qm.jS)|(refine' qm.op ?_;((repeat' first|(exact Pick.here)|(refine' Pick.there ?_));done))|(refine' qw.cons ?_ ?_)|(refine' qm.agg ?_));done)
 case hs =>
   (repeat' first|(exact zK.nil)|(exact zK.refl _)|(refine' zK.p ?_ ?_;rotate_left 1;(focus (((repeat' first|(exact Pick.here)|(refine' Pick.there ?_));done)))))
   all_goals (repeat' first|(exact zK.refl _)|(refine zK.drop ?_))
 case hp=>exact zG (v:=wW y.2.1) (zG (aj y.2.1) rfl) rfl
end Go.Proofs.YtolhegocbkckdaaGreat
