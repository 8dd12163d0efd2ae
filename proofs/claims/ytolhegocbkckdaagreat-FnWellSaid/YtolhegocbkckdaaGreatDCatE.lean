/-
 Catalogs drawn from a string of bytes, some of them not right. Own work; no condition.
-/
import Derived.Test.YtolhegocbkckdaaGreatDCatD
import Derived.Test.YtolhegocbkckdaaGreatMg29
namespace Go.Proofs.YtolhegocbkckdaaGreat
open Go
set_option linter.unusedSimpArgs false
set_option linter.unusedVariables false
theorem specDigits_1 {n:Int} (h:1≤n∧n≤4):∃ d:List UInt8,d.length≤1∧∀ s,VCalls Tryz.prog 71 [.int .i64 n] s (fun v s'=>v = .str d∧s'=s):=by
 refine ⟨[UInt8.ofNat (48+n.toNat)],Nat.le_refl _,fun s=>?_⟩
 obtain ⟨m,rfl⟩:∃ m:Nat,n=m:=⟨n.toNat,by omega⟩
 have:m=1∨m=2∨m=3∨m=4:=by omega
 rcases this with rfl | rfl | rfl | rfl
 · skip
   refine zi.pure Tryz.func71 rfl (by kernel_rfl) (by simp) ?_
   repeat' first|(refine zf ?_;first|(refine zq.nil ?_)|(refine zq.ev zx rfl ?_))|(refine zH ?_;first|(refine WL.seq ?_)|(refine WL.region (by kernel_rfl) ?_)|(refine WL.block ?_)|(refine WL.skip ?_)|(refine zu ?_;first|(refine WL.qQ rfl ?_)))|(refine zw ?_)
   refine WL.xK (fun i:Nat=>1 - i) (fun i=>[(0,.int .i64 (if i=0 then 1 else 0)),(3,.bool false),(4,.str (if i=0 then [] else [UInt8.ofNat (48+1)]))]) (fun i=>[])
     (fun i=>i≤1) 0 0 (by simp) (fun _=>rfl) ⟨rfl,rfl,rfl,trivial⟩ rfl (fun i hi=>?_) (fun i hi=>?_)
   · simp [qF,qG,V.under,V.zO]
   have hz:i=0∨i=1:=by omega
   rcases hz with rfl | rfl
   · skip
     repeat' first|(refine zq.ans (zk.toStr zx rfl rfl rfl rfl rfl rfl rfl rfl rfl) ?_)|(refine zf ?_;first|(refine zq.nil ?_)|(refine zq.ev zx rfl ?_)|(refine kZ ?_;first|(refine zq.Kl zx rfl rfl rfl rfl rfl rfl rfl rfl rfl rfl rfl ?_))|(refine xk ?_;first|(refine zq.ans (zk.cat rfl rfl ?_) ?_;(focus (exact zD (by simp <;> omega))))|(refine zq.ans (zk.arith rfl rfl rfl) ?_)))|(refine zH ?_;first|(refine WL.seq ?_)|(refine WL.region (by kernel_rfl) ?_)|(refine WL.block ?_)|(refine WL.skip ?_)|(refine zu ?_;first|(refine WL.qb rfl ?_)|(refine WL.qQ rfl ?_)))|(refine zw ?_)|(refine zQ ?_)
     all_goals
       refine qB.of (1) ?_ ?_ ?_ ?_
       · first | omega |(refine ⟨?_,?_⟩;(focus (first | omega |(simp;omega)));(first | omega |(simp_all [] <;> fail)|(simp_all [];omega)))|(simp_all [] <;> fail)|(simp_all [];omega)
       · first | omega |(simp;omega) | simp_all
       · repeat' first
           | exact qz.nil
           |(refine qz.mk rfl ?_ ?_)
           | rfl
           |(simp [] <;> fail)
           |(simp [];omega)
       · first | rfl |(simp [] <;> fail)|(simp [];omega)
   · skip
     repeat' first|(refine zf ?_;first|(refine zq.nil ?_)|(refine zq.ev zx rfl ?_))|(refine zH ?_;first|(refine WL.seq ?_)|(refine WL.region (by kernel_rfl) ?_)|(refine WL.exit ?_)|(refine WL.skip ?_)|(refine WL.ret ?_)|(refine zu ?_;first|(refine WL.qQ rfl ?_)))|(refine zw ?_)|(refine zC ?_)|(refine zV ?_)|(refine zL ?_)|(refine zh.r1 (r := .tmp 2) (.inl rfl) (zn.tmp rfl) ?_)|(refine zX.mk ?_)
     rfl
 · skip
   refine zi.pure Tryz.func71 rfl (by kernel_rfl) (by simp) ?_
   repeat' first|(refine zf ?_;first|(refine zq.nil ?_)|(refine zq.ev zx rfl ?_))|(refine zH ?_;first|(refine WL.seq ?_)|(refine WL.region (by kernel_rfl) ?_)|(refine WL.block ?_)|(refine WL.skip ?_)|(refine zu ?_;first|(refine WL.qQ rfl ?_)))|(refine zw ?_)
   refine WL.xK (fun i:Nat=>1 - i) (fun i=>[(0,.int .i64 (if i=0 then 2 else 0)),(3,.bool false),(4,.str (if i=0 then [] else [UInt8.ofNat (48+2)]))]) (fun i=>[])
     (fun i=>i≤1) 0 0 (by simp) (fun _=>rfl) ⟨rfl,rfl,rfl,trivial⟩ rfl (fun i hi=>?_) (fun i hi=>?_)
   · simp [qF,qG,V.under,V.zO]
   have hz:i=0∨i=1:=by omega
   rcases hz with rfl | rfl
   · skip
     repeat' first|(refine zq.ans (zk.toStr zx rfl rfl rfl rfl rfl rfl rfl rfl rfl) ?_)|(refine zf ?_;first|(refine zq.nil ?_)|(refine zq.ev zx rfl ?_)|(refine kZ ?_;first|(refine zq.Kl zx rfl rfl rfl rfl rfl rfl rfl rfl rfl rfl rfl ?_))|(refine xk ?_;first|(refine zq.ans (zk.cat rfl rfl ?_) ?_;(focus (exact zD (by simp <;> omega))))|(refine zq.ans (zk.arith rfl rfl rfl) ?_)))|(refine zH ?_;first|(refine WL.seq ?_)|(refine WL.region (by kernel_rfl) ?_)|(refine WL.block ?_)|(refine WL.skip ?_)|(refine zu ?_;first|(refine WL.qb rfl ?_)|(refine WL.qQ rfl ?_)))|(refine zw ?_)|(refine zQ ?_)
     all_goals
       refine qB.of (1) ?_ ?_ ?_ ?_
       · first | omega |(refine ⟨?_,?_⟩;(focus (first | omega |(simp;omega)));(first | omega |(simp_all [] <;> fail)|(simp_all [];omega)))|(simp_all [] <;> fail)|(simp_all [];omega)
       · first | omega |(simp;omega) | simp_all
       · repeat' first
           | exact qz.nil
           |(refine qz.mk rfl ?_ ?_)
           | rfl
           |(simp [] <;> fail)
           |(simp [];omega)
       · first | rfl |(simp [] <;> fail)|(simp [];omega)
   · skip
     repeat' first|(refine zf ?_;first|(refine zq.nil ?_)|(refine zq.ev zx rfl ?_))|(refine zH ?_;first|(refine WL.seq ?_)|(refine WL.region (by kernel_rfl) ?_)|(refine WL.exit ?_)|(refine WL.skip ?_)|(refine WL.ret ?_)|(refine zu ?_;first|(refine WL.qQ rfl ?_)))|(refine zw ?_)|(refine zC ?_)|(refine zV ?_)|(refine zL ?_)|(refine zh.r1 (r := .tmp 2) (.inl rfl) (zn.tmp rfl) ?_)|(refine zX.mk ?_)
     rfl
 · skip
   refine zi.pure Tryz.func71 rfl (by kernel_rfl) (by simp) ?_
   repeat' first|(refine zf ?_;first|(refine zq.nil ?_)|(refine zq.ev zx rfl ?_))|(refine zH ?_;first|(refine WL.seq ?_)|(refine WL.region (by kernel_rfl) ?_)|(refine WL.block ?_)|(refine WL.skip ?_)|(refine zu ?_;first|(refine WL.qQ rfl ?_)))|(refine zw ?_)
   refine WL.xK (fun i:Nat=>1 - i) (fun i=>[(0,.int .i64 (if i=0 then 3 else 0)),(3,.bool false),(4,.str (if i=0 then [] else [UInt8.ofNat (48+3)]))]) (fun i=>[])
     (fun i=>i≤1) 0 0 (by simp) (fun _=>rfl) ⟨rfl,rfl,rfl,trivial⟩ rfl (fun i hi=>?_) (fun i hi=>?_)
   · simp [qF,qG,V.under,V.zO]
   have hz:i=0∨i=1:=by omega
   rcases hz with rfl | rfl
   · skip
     repeat' first|(refine zq.ans (zk.toStr zx rfl rfl rfl rfl rfl rfl rfl rfl rfl) ?_)|(refine zf ?_;first|(refine zq.nil ?_)|(refine zq.ev zx rfl ?_)|(refine kZ ?_;first|(refine zq.Kl zx rfl rfl rfl rfl rfl rfl rfl rfl rfl rfl rfl ?_))|(refine xk ?_;first|(refine zq.ans (zk.cat rfl rfl ?_) ?_;(focus (exact zD (by simp <;> omega))))|(refine zq.ans (zk.arith rfl rfl rfl) ?_)))|(refine zH ?_;first|(refine WL.seq ?_)|(refine WL.region (by kernel_rfl) ?_)|(refine WL.block ?_)|(refine WL.skip ?_)|(refine zu ?_;first|(refine WL.qb rfl ?_)|(refine WL.qQ rfl ?_)))|(refine zw ?_)|(refine zQ ?_)
     all_goals
       refine qB.of (1) ?_ ?_ ?_ ?_
       · first | omega |(refine ⟨?_,?_⟩;(focus (first | omega |(simp;omega)));(first | omega |(simp_all [] <;> fail)|(simp_all [];omega)))|(simp_all [] <;> fail)|(simp_all [];omega)
       · first | omega |(simp;omega) | simp_all
       · repeat' first
           | exact qz.nil
           |(refine qz.mk rfl ?_ ?_)
           | rfl
           |(simp [] <;> fail)
           |(simp [];omega)
       · first | rfl |(simp [] <;> fail)|(simp [];omega)
   · skip
     repeat' first|(refine zf ?_;first|(refine zq.nil ?_)|(refine zq.ev zx rfl ?_))|(refine zH ?_;first|(refine WL.seq ?_)|(refine WL.region (by kernel_rfl) ?_)|(refine WL.exit ?_)|(refine WL.skip ?_)|(refine WL.ret ?_)|(refine zu ?_;first|(refine WL.qQ rfl ?_)))|(refine zw ?_)|(refine zC ?_)|(refine zV ?_)|(refine zL ?_)|(refine zh.r1 (r := .tmp 2) (.inl rfl) (zn.tmp rfl) ?_)|(refine zX.mk ?_)
     rfl
 · skip
   refine zi.pure Tryz.func71 rfl (by kernel_rfl) (by simp) ?_
   repeat' first|(refine zf ?_;first|(refine zq.nil ?_)|(refine zq.ev zx rfl ?_))|(refine zH ?_;first|(refine WL.seq ?_)|(refine WL.region (by kernel_rfl) ?_)|(refine WL.block ?_)|(refine WL.skip ?_)|(refine zu ?_;first|(refine WL.qQ rfl ?_)))|(refine zw ?_)
   refine WL.xK (fun i:Nat=>1 - i) (fun i=>[(0,.int .i64 (if i=0 then 4 else 0)),(3,.bool false),(4,.str (if i=0 then [] else [UInt8.ofNat (48+4)]))]) (fun i=>[])
     (fun i=>i≤1) 0 0 (by simp) (fun _=>rfl) ⟨rfl,rfl,rfl,trivial⟩ rfl (fun i hi=>?_) (fun i hi=>?_)
   · simp [qF,qG,V.under,V.zO]
   have hz:i=0∨i=1:=by omega
   rcases hz with rfl | rfl
   · skip
     repeat' first|(refine zq.ans (zk.toStr zx rfl rfl rfl rfl rfl rfl rfl rfl rfl) ?_)|(refine zf ?_;first|(refine zq.nil ?_)|(refine zq.ev zx rfl ?_)|(refine kZ ?_;first|(refine zq.Kl zx rfl rfl rfl rfl rfl rfl rfl rfl rfl rfl rfl ?_))|(refine xk ?_;first|(refine zq.ans (zk.cat rfl rfl ?_) ?_;(focus (exact zD (by simp <;> omega))))|(refine zq.ans (zk.arith rfl rfl rfl) ?_)))|(refine zH ?_;first|(refine WL.seq ?_)|(refine WL.region (by kernel_rfl) ?_)|(refine WL.block ?_)|(refine WL.skip ?_)|(refine zu ?_;first|(refine WL.qb rfl ?_)|(refine WL.qQ rfl ?_)))|(refine zw ?_)|(refine zQ ?_)
     all_goals
       refine qB.of (1) ?_ ?_ ?_ ?_
       · first | omega |(refine ⟨?_,?_⟩;(focus (first | omega |(simp;omega)));(first | omega |(simp_all [] <;> fail)|(simp_all [];omega)))|(simp_all [] <;> fail)|(simp_all [];omega)
       · first | omega |(simp;omega) | simp_all
       · repeat' first
           | exact qz.nil
           |(refine qz.mk rfl ?_ ?_)
           | rfl
           |(simp [] <;> fail)
           |(simp [];omega)
       · first | rfl |(simp [] <;> fail)|(simp [];omega)
   · skip
     repeat' first|(refine zf ?_;first|(refine zq.nil ?_)|(refine zq.ev zx rfl ?_))|(refine zH ?_;first|(refine WL.seq ?_)|(refine WL.region (by kernel_rfl) ?_)|(refine WL.exit ?_)|(refine WL.skip ?_)|(refine WL.ret ?_)|(refine zu ?_;first|(refine WL.qQ rfl ?_)))|(refine zw ?_)|(refine zC ?_)|(refine zV ?_)|(refine zL ?_)|(refine zh.r1 (r := .tmp 2) (.inl rfl) (zn.tmp rfl) ?_)|(refine zX.mk ?_)
     rfl
def Tab.mid (t:Tab):Prop:=t.name.length≤21∧t.qO.length≤4∧∀ c∈t.qO,c.name.length≤21
theorem Tab.small.mid {t:Tab} (h:t.small):t.mid:=⟨Nat.le_trans h.1 (by omega),Nat.le_trans h.2.1 (by omega),fun c hc=>Nat.le_trans (h.2.2 c hc) (by omega)⟩
theorem Tab.rY {s:S} {b:Nat} {H:List BE} {u:V} {x:Tab} (h:Hold s b (.own u x.zF::H)):∃ c l:Nat,u = .agg [.str x.name,.qJ (.is c) l 0 x.qO.length]∧Hold s b (.own (.qJ (.is c) l 0 x.qO.length) (.sl 0 (x.qO.map Col.zF))::H):=by
 obtain ⟨vs,rfl,hl⟩:=h.WK
 match vs,hl with
 | [v0,v1],_ =>
   obtain ⟨e0,g0⟩:=h.dR rfl
   subst e0
   have h8:=g0.Jj
   have h9:Hold s b (.own v1 (.sl 0 (x.qO.map Col.zF))::H):=h8.sel (.cons 0 rfl rfl (.drop (zK.refl H)))
   obtain ⟨c8,l8,e8,_⟩:=h9.slc
   rw [List.length_map] at e8
   subst e8
   exact ⟨c8,l8,rfl,h9⟩
abbrev ZQ:List Col:=[⟨[97],1⟩,⟨[98],1⟩,⟨[99],2⟩,⟨[100],3⟩]
theorem Jh {d:List UInt8} (h:d.length≤1):(Tab.mk ([120]++d) ZQ).mid:=by
 refine ⟨by simp;omega,(by decide:ZQ.length≤4),fun c hc=>?_⟩
 simp only [ZQ,List.mem_cons,List.not_mem_nil,or_false] at hc
 rcases hc with rfl | rfl | rfl | rfl <;> decide
set_option maxHeartbeats 4000000 in
theorem Qa {b:V} (hb:Bytes b):bN Tryz.prog 40 b [] (fun ts:List Tab=>(⟨ts⟩:jy).zF) (fun ts=>ts.length≤5∧∀ t∈ts,t.mid):=by
 intro s H l i h hi hh
 have hmain:VCalls Tryz.prog 40 [.ptr l 0] (s.ext []) (fun v t=>∃ (x:List Tab × Int × Int) (s':S),((x.1.length≤5∧∀ t∈x.1,t.mid)∧0≤x.2.1)∧t=s'.ext []∧uY s' v (⟨x.1⟩:jy).zF (.cell l (vw b x.2.1 x.2.2)::H)):=by
   refine zi.jX Tryz.func40 rfl (by kernel_rfl) ?_
   repeat' first|(refine qj ?_;refine zq.kR zx hh rfl rfl ?_;intro s n hh)|(refine zU ?_;first|(refine zq.zN zx 0 hh rfl rfl rfl rfl rfl rfl rfl rfl rfl ?_;intro s hh)|(refine zq.zN zx 1 hh rfl rfl rfl rfl rfl rfl rfl rfl rfl ?_;intro s hh)|(refine zq.zN zx 3 hh rfl rfl rfl rfl rfl rfl rfl rfl rfl ?_;intro s hh))|(refine zy 67 ?_;first|(refine zq.jF 1 rfl rfl Hf hh (gX hb) .nil rfl rfl ?_ ?_;(focus (first | assumption | omega)) ;intro s y i h hq hi hh ;try dsimp only [List.cons_append,List.nil_append] at hh))|(refine zy 38 ?_;first|(refine zq.qc 2 rfl rfl vE hh rfl rfl ?_ (zP hb (by omega)) ?_;(focus (first | assumption | omega)) ;intro s x i h hq hi hh ;try dsimp only))|(refine zf ?_;first|(refine zq.nil ?_)|(refine zq.ev zx rfl ?_)|(refine zo ?_;first|(refine zq.ans (zk.zM zx 1 hh rfl rfl rfl rfl) ?_)))|(refine zH ?_;first|(refine WL.seq ?_)|(refine WL.region (by kernel_rfl) ?_)|(refine WL.block ?_)|(refine WL.skip ?_)|(refine WL.ret ?_)|(refine zu ?_;first|(refine WL.cond rfl (fun h=>?_) (fun h=>?_))))|(refine zw ?_)|(refine zQ ?_)|(refine' zh.r1 (r := .cell 2 26) (.inl rfl) ?_ ?_;rotate_left 1;(focus (first|(exact zn.xM 3 zx hh rfl rfl rfl rfl))))
   · skip
     have hw:=(by assumption:(0<y.1.length∧y.1.length≤3)∧∀ t∈y.1,t.small)
     obtain ⟨ts,c0,l0⟩:=y
     dsimp only at hw hh
     obtain ⟨t,tz,rfl⟩:∃ t tz,ts=t::tz:=by
       cases ts with
       | nil=>simp at hw
       | cons t tz=>exact ⟨t,tz,rfl⟩
     have hkl:0<(t::tz).length:=hw.1.1
     obtain ⟨ht1,ht2,ht3⟩:=hw.2 t (by simp)
     have hcl:∀ x∈([]:List V)++t.zF::tz.map Tab.zF,x.cells.length=2:=by
       intro x hx
       obtain ⟨y,_,rfl⟩:=List.mem_map.1 (show x∈(t::tz).map Tab.zF from hx)
       rfl
     obtain ⟨A,Z,u,rest,hA,hr,hnc,hn,hh⟩:=Hold.lq (dA:=[]) (d:=t.zF) (dZ:=tz.map Tab.zF) 2 (hh.sel (.cons 2 rfl rfl (zK.refl _))) hcl
     have hA:(V.flat A).length=0*2:=hA
     obtain ⟨c1,l1,rfl,hh⟩:=Tab.rY (hh.sel (.cons 1 rfl rfl (zK.refl _)))
     have OH:Z.length=tz.length:=by
       obtain ⟨Z2,hZ2,OH⟩:=(hh.sel (.cons 3 rfl rfl (zK.refl _))).WK
       cases hZ2
       rw [OH,List.length_map]
     have hZs:∀ v∈Z,v.cells.length=2:=by
       obtain ⟨a,hZ2,_⟩:=(hh.sel (.cons 3 rfl rfl (zK.refl _))).WX (List.mem_cons_self ..)
       cases hZ2 with
       | qP h=>cases h
       | agg k=>exact k.sizes fun x hx=>hcl x (by simp only [List.nil_append];exact List.mem_cons_of_mem _ hx)
     have RY:A=[]:=by
       obtain ⟨A2,hA2,DY⟩:=(hh.sel (.cons 2 rfl rfl (zK.refl _))).WK
       cases hA2
       exact List.length_eq_zero_iff.1 DY
     have hcell:V.flat A++((V.agg [V.str t.name,V.qJ (.is c1) l1 0 t.qO.length]).cells++(V.flat Z++rest))=V.flat (V.agg [V.str t.name,V.qJ (.is c1) l1 0 t.qO.length]::Z)++rest:=by
       rw [RY,vZ]
       simp [V.flat]
     have hun:(V.agg [V.str t.name,V.qJ (.is c1) l1 0 t.qO.length]::Z).length=(t::tz).length:=by simp [OH]
     have QD:∀ v∈V.agg [V.str t.name,V.qJ (.is c1) l1 0 t.qO.length]::Z,v.cells.length=2:=fun v hv=>by
       rcases List.mem_cons.1 hv with rfl | hv
       · rfl
       · exact hZs v hv
     have hbb:(t::tz).length+[V.agg [V.str t.name,V.qJ (.is c1) l1 0 t.qO.length]].length≤1099511627776:=by
       have:=hw.1.2
       simp only [List.length_cons,List.length_nil] at this ⊢
       omega
     repeat' first|(refine zU ?_;first|(refine zq.zN zx 5 hh rfl rfl rfl rfl rfl rfl rfl rfl rfl ?_;intro s hh)|(refine zq.zN zx 6 hh rfl rfl rfl rfl rfl rfl rfl rfl rfl ?_;intro s hh))|(refine ji ?_;refine zq.OC (us:=_::Z) zx 1 rfl ?_ rfl rfl rfl rfl rfl rfl rfl rfl hh hun QD (by simp) hr hnc (zS.of rfl) (xU.of hbb rfl) ?_;(focus (exact congrArg (fun c=>some (BE.cell l0 c)) hcell)) ;intro s c l2 Pt hh)|(refine zf ?_;first|(refine zq.nil ?_)|(refine zo ?_;first|(refine zq.ans (zk.zM zx 5 hh rfl rfl rfl rfl) ?_)))|(refine zH ?_;first|(refine WL.seq ?_)|(refine WL.region (by kernel_rfl) ?_)|(refine WL.drawn (id:=4) [0,1,2,3,4,5,6,7,8,9] [7,9] [[],[0],[],[2],[2,3],[2,3,4],[2,3,4,5],[0,1,2,3,4,5,6],[0,1,2,3,4,5,6,7],[0,1,2,3,4,5,6,7,8]] (by kernel_rfl) (by kernel_rfl) ?_)|(refine WL.ret ?_))|(refine vN ?_;first|(refine zA.nil ?_)|(refine zA.fl rfl rfl (.ev zx rfl) ?_)|(refine zA.fl rfl rfl (zk.fD zx rfl rfl rfl rfl rfl rfl rfl rfl rfl) ?_)|(refine qo rfl ?_;first|(refine zA.fl rfl rfl (zk.zM zx 5 hh rfl rfl rfl rfl) ?_)|(refine zA.fl rfl rfl (zk.pJ (q:=0*2) zx 1 0 hh rfl rfl hA rfl rfl rfl rfl) ?_))|(refine kQ rfl ?_;first|(refine zA.fl rfl rfl (zk.X3 (j:=0) zx rfl rfl rfl rfl rfl hkl rfl) ?_))|(refine zA.iY rfl rfl rfl ?_))|(refine zw ?_)|(refine zQ ?_)|(refine' zh.r1 (r := .cell 2 26) (.inl rfl) ?_ ?_;rotate_left 1;(focus (first|(exact zn.xM 6 zx hh rfl rfl rfl rfl))))|(refine And.intro ?_ ?_)|(exact xR.nil)
     have hp:=hh.pack (v := .agg [.str t.name,.qJ (.is c1) l1 0 t.qO.length]) (d:=t.zF) (.agg (.cons (.qP rfl) (.cons (.own 1 rfl rfl) .nil)))
     have key:=uY.dup (c:=c) (sz:=2) (n:=(t::tz).length+[V.agg [V.str t.name,V.qJ (.is c1) l1 0 t.qO.length]].length) (dZ:=tz.map Tab.zF) (hp.sel (.cons 1 rfl rfl (.cons 0 rfl rfl (.cons 1 rfl rfl (.cons 1 rfl rfl (.drop (.drop (.drop (zK.refl _)))))))) ) (by simp) (fun x hx=>hcl x hx)
     have e3:t.zF::tz.map Tab.zF++[t.zF]=((t::tz)++[t]).map Tab.zF:=by simp
     rw [e3] at key
     refine ⟨((t::tz)++[t],i,_),s,⟨⟨?_,fun y hy=>?_⟩,hi⟩,rfl,key⟩
     · have := hw.1.2
       simp only [List.length_append,List.length_cons,List.length_nil] at this ⊢
       omega
     · rcases List.mem_append.1 hy with hy | hy
       · exact (hw.2 y hy).mid
       · rw [List.mem_singleton] at hy;subst hy;exact (hw.2 y (by simp)).mid
   · skip
     have hw:=(by assumption:(0<y.1.length∧y.1.length≤3)∧∀ t∈y.1,t.small)
     obtain ⟨ts,c0,l0⟩:=y
     dsimp only at hw hh
     obtain ⟨t,tz,rfl⟩:∃ t tz,ts=t::tz:=by
       cases ts with
       | nil=>simp at hw
       | cons t tz=>exact ⟨t,tz,rfl⟩
     have hkl:0<(t::tz).length:=hw.1.1
     obtain ⟨ht1,ht2,ht3⟩:=hw.2 t (by simp)
     have hcl:∀ x∈([]:List V)++t.zF::tz.map Tab.zF,x.cells.length=2:=by
       intro x hx
       obtain ⟨y,_,rfl⟩:=List.mem_map.1 (show x∈(t::tz).map Tab.zF from hx)
       rfl
     obtain ⟨A,Z,u,rest,hA,hr,hnc,hn,hh⟩:=Hold.lq (dA:=[]) (d:=t.zF) (dZ:=tz.map Tab.zF) 2 (hh.sel (.cons 2 rfl rfl (zK.refl _))) hcl
     have hA:(V.flat A).length=0*2:=hA
     obtain ⟨c1,l1,rfl,hh⟩:=Tab.rY (hh.sel (.cons 1 rfl rfl (zK.refl _)))
     repeat' first|(refine zU ?_;first|(refine zq.zN zx 6 hh rfl rfl rfl rfl rfl rfl rfl rfl rfl ?_;intro s hh))|(refine ji ?_;first|(refine' zq.appW zx 1 rfl rfl rfl rfl rfl rfl rfl rfl rfl rfl hh ?_ ?_ ?_ (xU.of ?_ rfl) ?_;rotate_left 2 ;(focus (first|(intro x hx;obtain ⟨y,_,rfl⟩:=List.mem_map.1 hx;first | rfl | exact PE.qA _ | exact PE.xC _))) ;(focus ((repeat' first|(exact qw.nil)|(exact qm.qP rfl)|(refine' qw.cons ?_ ?_)|(refine' qm.agg ?_));done)) ;(focus ((repeat' first|(exact zS.of rfl));done)) ;(focus (first | omega |(simp ;omega))) ;intro s c n hh))|(refine zy 38 ?_;first|(refine zq.qc 0 rfl rfl vE hh rfl rfl ?_ (zP hb (by omega)) ?_;(focus (first | assumption | omega)) ;intro s x i h hq hi hh ;try dsimp only))|(refine zy 44 ?_;first|(refine zq.qc 4 rfl rfl BL hh rfl rfl ?_ (bB hb) ?_;(focus (first | assumption | omega)) ;intro s x i h hq hi hh ;try dsimp only))|(refine zU ?_;first|(refine zq.ak (q:=0*2) zx 2 1 hh rfl rfl hA rfl rfl rfl rfl rfl rfl rfl rfl rfl ?_;intro s hh))|(refine zf ?_;first|(refine zq.nil ?_)|(refine zo ?_;first|(refine zq.ans (zk.zM zx 5 hh rfl rfl rfl rfl) ?_)))|(refine zH ?_;first|(refine WL.seq ?_)|(refine WL.region (by kernel_rfl) ?_)|(refine WL.drawn (id:=6) [0,1,2,3,4,5,6,7,9,8,10,11,12,13,14,15,16] [8,10,13,16] [[],[0],[],[2],[2,3],[2,3,4],[2,3,4,5],[],[7],[],[7,8,9],[7,8,9,10],[7,8,9,10,11],[2,3,4,5,6,7,8,9,10,11,12],[0,1,2,3,4,5,6,7,8,9,10,11,12,13],[0,1,2,3,4,5,6,7,8,9,10,11,12,13,14],[0,1,2,3,4,5,6,7,8,9,10,11,12,13,14,15]] (by kernel_rfl) (by kernel_rfl) ?_)|(refine WL.ret ?_))|(refine vN ?_;first|(refine zA.nil ?_)|(refine' zA.fl (v := .agg _) rfl rfl (zk.jV zx rfl rfl rfl rfl ?_) ?_;rotate_left 1;(focus ((repeat' first|(exact Fills.nil)|(refine' Fills.cons rfl rfl rfl rfl ?_));done)))|(refine zA.fl rfl rfl (.ev zx rfl) ?_)|(refine zA.fl rfl rfl (zk.fD zx rfl rfl rfl rfl rfl rfl rfl rfl rfl) ?_)|(refine qo rfl ?_;first|(refine zA.fl rfl rfl (zk.zM zx 5 hh rfl rfl rfl rfl) ?_)|(refine zA.fl rfl rfl (zk.pJ (q:=0*2) zx 1 1 hh rfl rfl hA rfl rfl rfl rfl) ?_))|(refine kQ rfl ?_;first|(refine zA.fl rfl rfl (zk.X3 (j:=0) zx rfl rfl rfl rfl rfl hkl rfl) ?_))|(refine zA.iY rfl rfl rfl ?_))|(refine zw ?_)|(refine zQ ?_)|(refine' zh.r1 (r := .cell 2 26) (.inl rfl) ?_ ?_;rotate_left 1;(focus (first|(exact zn.xM 6 zx hh rfl rfl rfl rfl))))|(refine And.intro ?_ ?_)|(exact xR.nil)|(refine xR.cons ?_ ?_)|(refine jG.fl rfl rfl (.ev zx rfl))|(refine jG.fl rfl rfl (zk.zM zx 5 hh rfl rfl rfl rfl))|(refine jG.fl rfl rfl (zk.X3 (j:=0) zx rfl rfl rfl rfl rfl hkl rfl))|(refine jG.fl rfl rfl (zk.pJ (q:=0*2) zx 2 1 hh rfl rfl hA rfl rfl rfl rfl))
     rename List UInt8=>nm
     have hnm:nm.length≤21:=by assumption
     have e2:t.qO.map Col.zF++[V.agg [V.str nm,V.int .i64 x]]=(t.qO++[Col.mk nm x]).map Col.zF:=by rw [List.map_append];rfl
     rw [e2] at hh
     refine ⟨(⟨t.name,t.qO++[Col.mk nm x]⟩::tz,i,h),s,⟨⟨Nat.le_trans hw.1.2 (by omega),fun y hy=>?_⟩,hi⟩,rfl,?_⟩
     · rcases List.mem_cons.1 hy with rfl | hy
       · refine ⟨Nat.le_trans ht1 (by omega), by simp; omega, fun q hq => ?_⟩
         rcases List.mem_append.1 hq with hq | hq
         · exact Nat.le_trans (ht3 q hq) (by omega)
         · rw [List.mem_singleton] at hq;subst hq;exact hnm
       · exact (hw.2 y (List.mem_cons_of_mem _ hy)).mid
     · refine uY.opn (sz := 2) (u := .agg [.str t.name, .qJ (.is c) n 0 ((t.qO.map Col.zF).length + [V.agg [V.str nm, V.int .i64 x]].length)]) (d := (⟨t.name, t.qO ++ [Col.mk nm x]⟩ : Tab).zF) (dZ := tz.map Tab.zF) [.own (.qJ (.is c) n 0 ((t.qO.map Col.zF).length + [V.agg [V.str nm, V.int .i64 x]].length)) (.sl 0 ((t.qO ++ [Col.mk nm x]).map Col.zF))] (hh.sel (.cons 2 rfl rfl (.cons 2 rfl rfl (.cons 2 rfl rfl (.cons 0 rfl rfl (.cons 0 rfl rfl (.drop (.drop (zK.refl _))))))))) rfl rfl rfl (fun s' ls h => ?_) (by simp) (fun x hx => hcl x (by simp only [List.nil_append]; exact List.mem_cons_of_mem _ hx))
       cases h with
       | cons h1 t=>exact .agg (.cons (.qP rfl) (.cons (Ow.rd h1) .nil))
   · skip
     have hw:=(by assumption:(0<y.1.length∧y.1.length≤3)∧∀ t∈y.1,t.small)
     obtain ⟨ts,c0,l0⟩:=y
     dsimp only at hw hh
     obtain ⟨t,tz,rfl⟩:∃ t tz,ts=t::tz:=by
       cases ts with
       | nil=>simp at hw
       | cons t tz=>exact ⟨t,tz,rfl⟩
     have hkl:0<(t::tz).length:=hw.1.1
     obtain ⟨ht1,ht2,ht3⟩:=hw.2 t (by simp)
     have hcl:∀ x∈([]:List V)++t.zF::tz.map Tab.zF,x.cells.length=2:=by
       intro x hx
       obtain ⟨y,_,rfl⟩:=List.mem_map.1 (show x∈(t::tz).map Tab.zF from hx)
       rfl
     obtain ⟨A,Z,u,rest,hA,hr,hnc,hn,hh⟩:=Hold.lq (dA:=[]) (d:=t.zF) (dZ:=tz.map Tab.zF) 2 (hh.sel (.cons 2 rfl rfl (zK.refl _))) hcl
     have hA:(V.flat A).length=0*2:=hA
     obtain ⟨c1,l1,rfl,hh⟩:=Tab.rY (hh.sel (.cons 1 rfl rfl (zK.refl _)))
     repeat' first|(refine zU ?_;first|(refine zq.zN zx 6 hh rfl rfl rfl rfl rfl rfl rfl rfl rfl ?_;intro s hh))|(refine zy 44 ?_;first|(refine zq.qc 4 rfl rfl BL hh rfl rfl ?_ (bB hb) ?_;(focus (first | assumption | omega)) ;intro s x i h hq hi hh ;try dsimp only))|(refine zU ?_;first|(refine zq.ak (q:=0*2) zx 2 0 hh rfl rfl hA rfl rfl rfl rfl rfl rfl rfl rfl rfl ?_;intro s hh))|(refine zf ?_;first|(refine zq.nil ?_)|(refine zo ?_;first|(refine zq.ans (zk.zM zx 5 hh rfl rfl rfl rfl) ?_)))|(refine zH ?_;first|(refine WL.seq ?_)|(refine WL.region (by kernel_rfl) ?_)|(refine WL.drawn (id:=8) [0,1,2,3,4,5,6] [3,6] [[],[0],[],[2],[0,1,2,3],[0,1,2,3,4],[0,1,2,3,4,5]] (by kernel_rfl) (by kernel_rfl) ?_)|(refine WL.ret ?_))|(refine vN ?_;first|(refine zA.nil ?_)|(refine zA.fl rfl rfl (.ev zx rfl) ?_)|(refine qo rfl ?_;first|(refine zA.fl rfl rfl (zk.zM zx 5 hh rfl rfl rfl rfl) ?_))|(refine kQ rfl ?_;first|(refine zA.fl rfl rfl (zk.X3 (j:=0) zx rfl rfl rfl rfl rfl hkl rfl) ?_))|(refine zA.iY rfl rfl rfl ?_))|(refine zw ?_)|(refine zQ ?_)|(refine' zh.r1 (r := .cell 2 26) (.inl rfl) ?_ ?_;rotate_left 1;(focus (first|(exact zn.xM 6 zx hh rfl rfl rfl rfl))))|(refine And.intro ?_ ?_)|(exact xR.nil)|(refine xR.cons ?_ ?_)|(refine jG.fl rfl rfl (.ev zx rfl))|(refine jG.fl rfl rfl (zk.zM zx 5 hh rfl rfl rfl rfl))
     have hnm:x.length≤21:=hq
     refine ⟨(⟨x,t.qO⟩::tz,i,h),s,⟨⟨Nat.le_trans hw.1.2 (by omega),fun y hy=>?_⟩,hi⟩,rfl,?_⟩
     · rcases List.mem_cons.1 hy with rfl | hy
       · exact ⟨hnm,Nat.le_trans ht2 (by omega),fun q hq=>Nat.le_trans (ht3 q hq) (by omega)⟩
       · exact (hw.2 y (List.mem_cons_of_mem _ hy)).mid
     · refine uY.opn (sz := 2) (u := .agg [.str x, .qJ (.is c1) l1 0 t.qO.length]) (d := (⟨x, t.qO⟩ : Tab).zF) (dZ := tz.map Tab.zF) [.own (.qJ (.is c1) l1 0 t.qO.length) (.sl 0 (t.qO.map Col.zF))] (hh.sel (.cons 2 rfl rfl (.cons 2 rfl rfl (.cons 2 rfl rfl (.cons 1 rfl rfl (.cons 0 rfl rfl (.drop (.drop (zK.refl _))))))))) rfl rfl rfl (fun s' ls h => ?_) (by simp) (fun x hx => hcl x (by simp only [List.nil_append]; exact List.mem_cons_of_mem _ hx))
       cases h with
       | cons h1 t=>exact .agg (.cons (.qP rfl) (.cons (Ow.rd h1) .nil))
   · skip
     have hw:=(by assumption:(0<y.1.length∧y.1.length≤3)∧∀ t∈y.1,t.small)
     obtain ⟨ts,c0,l0⟩:=y
     dsimp only at hw hh
     obtain ⟨t,tz,rfl⟩:∃ t tz,ts=t::tz:=by
       cases ts with
       | nil=>simp at hw
       | cons t tz=>exact ⟨t,tz,rfl⟩
     have hkl:0<(t::tz).length:=hw.1.1
     obtain ⟨ht1,ht2,ht3⟩:=hw.2 t (by simp)
     have hcl:∀ x∈([]:List V)++t.zF::tz.map Tab.zF,x.cells.length=2:=by
       intro x hx
       obtain ⟨y,_,rfl⟩:=List.mem_map.1 (show x∈(t::tz).map Tab.zF from hx)
       rfl
     obtain ⟨A,Z,u,rest,hA,hr,hnc,hn,hh⟩:=Hold.lq (dA:=[]) (d:=t.zF) (dZ:=tz.map Tab.zF) 2 (hh.sel (.cons 2 rfl rfl (zK.refl _))) hcl
     have hA:(V.flat A).length=0*2:=hA
     obtain ⟨c1,l1,rfl,hh⟩:=Tab.rY (hh.sel (.cons 1 rfl rfl (zK.refl _)))
     repeat' first|(refine zU ?_;first|(refine zq.zN zx 6 hh rfl rfl rfl rfl rfl rfl rfl rfl rfl ?_;intro s hh))|(refine zU ?_;first|(refine zq.ak (q:=0*2) zx 1 1 hh rfl rfl hA rfl rfl rfl rfl rfl rfl rfl rfl rfl ?_;intro s hh))|(refine zf ?_;first|(refine zq.nil ?_)|(refine zq.ev zx rfl ?_)|(refine zo ?_;first|(refine zq.ans (zk.zM zx 5 hh rfl rfl rfl rfl) ?_))|(refine xw ?_;first|(refine zq.ans (zk.X3 (j:=0) zx rfl rfl rfl rfl rfl hkl rfl) ?_)))|(refine zH ?_;first|(refine WL.seq ?_)|(refine WL.region (by kernel_rfl) ?_)|(refine WL.ret ?_))|(refine zw ?_)|(refine zQ ?_)|(refine' zh.r1 (r := .cell 2 26) (.inl rfl) ?_ ?_;rotate_left 1;(focus (first|(exact zn.xM 6 zx hh rfl rfl rfl rfl))))
     have key:=uY.opn (sz:=2) (u := .agg [.str t.name,.zl]) (d:=(⟨t.name,[]⟩:Tab).zF) (dZ:=tz.map Tab.zF) (n:=(t::tz).length) (c:=c0) [] (hh.sel (.cons 1 rfl rfl (.cons 1 rfl rfl (.cons 1 rfl rfl (.drop (.cons 0 rfl rfl (.drop (.drop (zK.refl _))))))))) rfl rfl rfl (fun s' ls h => .agg (.cons (.qP rfl) (.cons .zl .nil))) (by simp) (fun x hx=>hcl x (by simp only [List.nil_append];exact List.mem_cons_of_mem _ hx))
     refine ⟨(⟨t.name,[]⟩::tz,i,_),s,⟨⟨Nat.le_trans hw.1.2 (by omega),fun y hy=>?_⟩,hi⟩,rfl,key⟩
     rcases List.mem_cons.1 hy with rfl | hy
     · exact ⟨Nat.le_trans ht1 (by omega),by simp,fun q hq=>by cases hq⟩
     · exact (hw.2 y (List.mem_cons_of_mem _ hy)).mid
   · skip
     have key:uY s (.agg [.zl]) (⟨[]⟩:jy).zF _:=⟨[],hh.sel (.cons 0 rfl rfl (.drop (.drop (.drop (zK.refl _))))),rfl,fun s' ls h => .agg (.cons .zl .nil)⟩
     exact ⟨([],i,_),s,⟨⟨by simp,fun y hy=>by cases hy⟩,hi⟩,rfl,key⟩
   · skip
     have hw:=(by assumption:(0<y.1.length∧y.1.length≤3)∧∀ t∈y.1,t.small)
     rename_i r2 _ _ _ _ _ _ _ _ _ _ _ hcur _ _ _ _ _
     refine WL.yw (fun y:(List Tab × Nat × Nat) × Int × Int=>5 - y.1.1.length) (fun _=>[(0,.ptr l 0),(2,.ptr r2 0),(3,.ptr n 0)])
       (fun y => .own (.qJ (.is y.1.2.1) y.1.2.2 0 y.1.1.length) (.sl 0 (y.1.1.map Tab.zF)) :: .cell l (vw b y.2.1 y.2.2) :: .cell n [.qJ (.is y.1.2.1) y.1.2.2 0 y.1.1.length] :: .cell r2 [.zl]::H)
       (fun y=>((0<y.1.1.length∧y.1.1.length≤5)∧∀ t∈y.1.1,t.mid)∧0≤y.2.1) (y,i,hcur) ⟨⟨⟨hw.1.1,Nat.le_trans hw.1.2 (by omega)⟩,fun t ht=>(hw.2 t ht).mid⟩,hi⟩ ⟨rfl,rfl,rfl,trivial⟩ hh (by (repeat' first|(exact zK.nil)|(exact zK.refl _)|(refine' zK.p ?_ ?_;rotate_left 1;(focus (((repeat' first|(exact Pick.here)|(refine' Pick.there ?_));done)))))) (fun y s hI hh=>?_)
     obtain ⟨⟨ts,c0,l0⟩,i,hc2⟩:=y
     obtain ⟨⟨⟨hI1,hI2⟩,Lm⟩,hi⟩:=hI
     dsimp only at hI1 hI2 Lm hi hh ⊢
     by_cases h4:ts.length≤4
     · obtain ⟨d, hd1, hd2⟩ := specDigits_1 (n := (ts.length : Int)) ⟨by omega, by omega⟩
       repeat' first|(refine zU ?_;first|(refine zq.zN zx 2 hh rfl rfl rfl rfl rfl rfl rfl rfl rfl ?_;intro s hh)|(refine zq.zN zx 3 hh rfl rfl rfl rfl rfl rfl rfl rfl rfl ?_;intro s hh))|(refine kZ ?_;first|(refine' zq.Z7 (d:=74) zx rfl rfl rfl rfl rfl rfl rfl rfl hh ?_ ?_ ?_;rotate_left 2 ;(focus ((repeat' first|(exact qw.nil)|(exact qm.qP rfl)|(refine' qw.cons ?_ ?_)|(refine' qm.agg ?_));done)) ;(focus ((repeat' first|(exact jM.of rfl));done)) ;intro s n hh))|(refine ji ?_;first|(refine' zq.appW zx 2 rfl rfl rfl rfl rfl rfl rfl rfl rfl rfl hh ?_ ?_ ?_ (xU.of ?_ rfl) ?_;rotate_left 2 ;(focus (first|(intro x hx;obtain ⟨y,_,rfl⟩:=List.mem_map.1 hx;first | rfl | exact PE.qA _ | exact PE.xC _))) ;(focus ((repeat' first|(exact qw.nil)|(exact qm.qP rfl)|(refine' qm.op ?_;((repeat' first|(exact Pick.here)|(refine' Pick.there ?_));done))|(refine' qw.cons ?_ ?_)|(refine' qm.agg ?_));done)) ;(focus ((repeat' first|(exact zS.of rfl));done)) ;(focus (first | omega |(simp ;omega))) ;intro s c n hh))|(refine zy 38 ?_;first|(refine zq.qc 1 rfl rfl vE hh rfl rfl ?_ (zP hb (by omega)) ?_;(focus (first | assumption | omega)) ;intro s x i h hq hi hh ;try dsimp only))|(refine zf ?_;first|(refine zq.nil ?_)|(refine zo ?_;first|(refine zq.ans (zk.zM zx 2 hh rfl rfl rfl rfl) ?_))|(refine zy 71 ?_;first|(refine zq.ans (zk.ze rfl rfl rfl (Oa) (hd2 _)) ?_)))|(refine zH ?_;first|(refine WL.seq ?_)|(refine WL.region (by kernel_rfl) ?_)|(refine WL.drawn (id:=14) [0,1,2,3,4,5,6] [4] [[],[0],[0,1],[],[3],[3,4],[0,1,2,3,4,5]] (by kernel_rfl) (by kernel_rfl) ?_)|(refine WL.XY (id:=15) (.fl 0 (.fl 1 (.fl 2 (.fl 3 (.fl 4 (.fl 7 (.fl 8 (.fl 9 (.fl 10 (.ef 5 (.fl 6 (.ef 11 (.fl 12 (.fl 13 (.ef 14 (.fl 15 (.ef 16 .done .stop)) .stop))) .stop)) (.ef 11 (.ef 5 (.fl 6 (.fl 12 (.fl 13 (.ef 14 (.fl 15 (.ef 16 .done .stop)) .stop)))) .stop) .stop))))))))))) [5,11,14,16] [[],[0],[],[2],[2,3],[2,3,4],[2,3,4,5],[],[],[],[],[7,8,9,10],[2,3,4,5,6,7,8,9,10,11],[2,3,4,5,6,7,8,9,10,11,12],[0,1,2,3,4,5,6,7,8,9,10,11,12,13],[0,1,2,3,4,5,6,7,8,9,10,11,12,13,14],[0,1,2,3,4,5,6,7,8,9,10,11,12,13,14,15]] (by kernel_rfl) (by kernel_rfl) ?_)|(refine WL.block ?_)|(refine WL.exit ?_)|(refine WL.skip ?_)|(refine WL.ret ?_)|(refine zu ?_;first|(refine WL.cond rfl (fun h=>?_) (fun h=>?_))))|(refine Pb ?_;first|(exact nG.stop)|(refine nG.done ?_)|(refine nG.fl rfl (.ev zx rfl) ?_)|(refine nG.fl rfl (zk.fD zx rfl rfl rfl rfl rfl rfl rfl rfl rfl) ?_)|(refine nG.fl rfl (zk.zM zx 2 hh rfl rfl rfl rfl) ?_)|(refine nG.fl rfl (zk.cat rfl rfl ?_) ?_;(focus (exact zD (by simp <;> omega))))|(refine nG.ef rfl rfl ?_ ?_))|(refine vN ?_;first|(refine zA.nil ?_)|(refine zA.fl rfl rfl (.ev zx rfl) ?_)|(refine qo rfl ?_;first|(refine zA.fl rfl rfl (zk.zM zx 2 hh rfl rfl rfl rfl) ?_))|(refine yj rfl ?_;first|(refine zA.fl rfl rfl (zk.add rfl rfl ?_) ?_;(focus (constructor <;> omega))))|(refine zA.iY rfl rfl rfl ?_))|(refine zw ?_)|(refine zC ?_)|(refine zQ ?_)|(refine zV ?_)|(refine ko ?_)|(refine' zh.r1 (r := .cell 2 26) (.inl rfl) ?_ ?_;rotate_left 1;(focus (first|(exact zn.xM 3 zx hh rfl rfl rfl rfl))))|(refine And.intro ?_ ?_)|(exact xR.nil)|(refine xR.cons ?_ ?_)|(refine jG.fl rfl rfl (.ev zx rfl))|(refine jG.fl rfl rfl (zk.zM zx 2 hh rfl rfl rfl rfl))|(refine jG.fl rfl rfl (zk.zM zx 3 hh rfl rfl rfl rfl))|(refine jG.fl rfl rfl (zk.cat rfl rfl ?_);(focus (exact zD (by simp <;> omega))))
       · skip
         all_goals
           try simp only [PE.uH,List.length_append,List.length_map,List.length_cons,List.length_nil,Nat.zero_add,Tab.zF,Col.zF,ZQ] at hh
           refine' kW.of (((ts++[Tab.mk ([120]++d) ZQ],_,_),_,_)) ?_ hh ?_ ?_ ?_
           rotate_left 5
           · dsimp only;(try simp only [List.map_append,List.map_cons,List.map_nil,PE.vS,List.length_append,List.length_map,List.length_cons,List.length_nil,Nat.zero_add]);(repeat' first|(exact zK.nil)|(exact zK.refl _)|(refine' zK.p ?_ ?_;rotate_left 1;(focus (((repeat' first|(exact Pick.here)|(refine' Pick.there ?_));done)))));done
           · dsimp only;refine ⟨⟨⟨by simp,by simp;omega⟩,fun t ht=>?_⟩,by assumption⟩;rcases List.mem_append.1 ht with ht | ht;exact Lm t ht;rw [List.mem_singleton] at ht;subst ht;exact Jh hd1
           · dsimp only;first | omega |(simp;omega)|(simp_all;omega)
           · repeat' first | exact qz.nil |(refine qz.mk rfl ?_ ?_) | rfl |(simp;done)|(simp;omega)
       · skip
         all_goals
           try simp only [PE.uH,List.length_append,List.length_map,List.length_cons,List.length_nil,Nat.zero_add,Tab.zF,Col.zF,ZQ] at hh
           refine' kW.of (((ts++[Tab.mk ([120]++d) ZQ],_,_),_,_)) ?_ hh ?_ ?_ ?_
           rotate_left 5
           · dsimp only;(try simp only [List.map_append,List.map_cons,List.map_nil,PE.vS,List.length_append,List.length_map,List.length_cons,List.length_nil,Nat.zero_add]);(repeat' first|(exact zK.nil)|(exact zK.refl _)|(refine' zK.p ?_ ?_;rotate_left 1;(focus (((repeat' first|(exact Pick.here)|(refine' Pick.there ?_));done)))));done
           · dsimp only;refine ⟨⟨⟨by simp,by simp;omega⟩,fun t ht=>?_⟩,by assumption⟩;rcases List.mem_append.1 ht with ht | ht;exact Lm t ht;rw [List.mem_singleton] at ht;subst ht;exact Jh hd1
           · dsimp only;first | omega |(simp;omega)|(simp_all;omega)
           · repeat' first | exact qz.nil |(refine qz.mk rfl ?_ ?_) | rfl |(simp;done)|(simp;omega)
       have key:uY s (.agg [.qJ (.is c0) l0 0 ts.length]) (⟨ts⟩:jy).zF _:=uY.OE hh (.agg (.cons (.own 1 rfl rfl) .nil)) (.cons 0 rfl rfl (.drop (.drop (zK.refl _))))
       exact ⟨(ts,i,_),s,⟨⟨hI2,Lm⟩,hi⟩,rfl,key⟩
     · skip
       repeat' first|(refine zU ?_;first|(refine zq.zN zx 3 hh rfl rfl rfl rfl rfl rfl rfl rfl rfl ?_;intro s hh))|(refine zy 38 ?_;first|(refine zq.qc 1 rfl rfl vE hh rfl rfl ?_ (zP hb (by omega)) ?_;(focus (first | assumption | omega)) ;intro s x i h hq hi hh ;try dsimp only))|(refine zf ?_;first|(refine zq.nil ?_)|(refine zo ?_;first|(refine zq.ans (zk.zM zx 2 hh rfl rfl rfl rfl) ?_)))|(refine zH ?_;first|(refine WL.seq ?_)|(refine WL.region (by kernel_rfl) ?_)|(refine WL.drawn (id:=14) [0,1,2,3,4,5,6] [4] [[],[0],[0,1],[],[3],[3,4],[0,1,2,3,4,5]] (by kernel_rfl) (by kernel_rfl) ?_)|(refine WL.exit ?_)|(refine WL.ret ?_)|(refine zu ?_;first|(refine WL.zY rfl ?_ ?_;(focus (first|(simp <;> omega))))))|(refine vN ?_;first|(refine zA.nil ?_)|(refine zA.fl rfl rfl (.ev zx rfl) ?_)|(refine qo rfl ?_;first|(refine zA.fl rfl rfl (zk.zM zx 2 hh rfl rfl rfl rfl) ?_))|(refine yj rfl ?_;first|(refine zA.fl rfl rfl (zk.add rfl rfl ?_) ?_;(focus (constructor <;> omega))))|(refine zA.iY rfl rfl rfl ?_))|(refine zw ?_)|(refine zC ?_)|(refine zQ ?_)|(refine zV ?_)|(refine ko ?_)|(refine' zh.r1 (r := .cell 2 26) (.inl rfl) ?_ ?_;rotate_left 1;(focus (first|(exact zn.xM 3 zx hh rfl rfl rfl rfl))))|(refine And.intro ?_ ?_)|(exact xR.nil)|(refine xR.cons ?_ ?_)|(refine jG.fl rfl rfl (.ev zx rfl))|(refine jG.fl rfl rfl (zk.zM zx 2 hh rfl rfl rfl rfl))
       have key:uY s (.agg [.qJ (.is c0) l0 0 ts.length]) (⟨ts⟩:jy).zF _:=uY.OE hh (.agg (.cons (.own 1 rfl rfl) .nil)) (.cons 0 rfl rfl (.drop (.drop (zK.refl _))))
       exact ⟨(ts,i,_),s,⟨⟨hI2,Lm⟩,hi⟩,rfl,key⟩
   · skip
     have hw:=(by assumption:(0<y.1.length∧y.1.length≤3)∧∀ t∈y.1,t.small)
     have key:uY s (.agg [.qJ (.is y.2.1) y.2.2 0 y.1.length]) (⟨y.1⟩:jy).zF _:=uY.OE hh (.agg (.cons (.own 2 rfl rfl) .nil)) (.cons 0 rfl rfl (.drop (.drop (zK.refl _))))
     exact ⟨(y.1,i,_),s,⟨⟨Nat.le_trans hw.1.2 (by omega),fun t ht=>(hw.2 t ht).mid⟩,hi⟩,rfl,key⟩
 exact (VCalls.OG hmain).mono fun v t ⟨x,s',h1,h2,h3,h4⟩=>⟨x.1,s',x.2.1,x.2.2,h1.1,h2,h1.2,h3,h4⟩
end Go.Proofs.YtolhegocbkckdaaGreat
