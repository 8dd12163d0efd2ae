/-
 Plans' trees bent: one of what is drawn is changed, in place. Own work; no condition.
-/
import Derived.Test.YtolhegocbkckdaaGreatMg13
import Derived.Test.YtolhegocbkckdaaGreatDPd2
namespace Go.Proofs.YtolhegocbkckdaaGreat
open Go
set_option linter.unusedSimpArgs false
set_option linter.unusedVariables false
theorem PE.rY {s:S} {b:Nat} {H:List BE} {u:V} {x:PE} (h:Hold s b (.own u x.zF::H)):∃ w:Nat→Nat × Nat,u=PE.ov (x,w)∧Hold s b (PE.ob (x,w)++H):=by
 rw [PE.qK] at h
 obtain ⟨vs,rfl,hl⟩:=h.WK
 match vs,hl with
 | [v0,v1,v2,v3,v4,v5,v6,v7,v8,v9],_ =>
   unfold PE.v at h
   obtain ⟨e0,g0⟩:=h.dR rfl
   obtain ⟨e1,g1⟩:=g0.dR rfl
   obtain ⟨e2,g2⟩:=g1.dR rfl
   obtain ⟨e3,g3⟩:=g2.dR rfl
   obtain ⟨e4,g4⟩:=g3.dR rfl
   obtain ⟨e5,g5⟩:=g4.dR rfl
   obtain ⟨e6,g6⟩:=g5.dR rfl
   obtain ⟨e7,g7⟩:=g6.dR rfl
   subst e0 e1 e2 e3 e4 e5 e6 e7
   have h8:=g7.Jj
   have h9:Hold s b (.own (.agg [v9]) (.agg [.sl 0 (x.sub.map PE.xu)]) :: .own v8 (.sl 0 (x.kids.map PE.zF))::H):=h8.sel (.cons 1 rfl rfl (.cons 0 rfl rfl (zK.refl H)))
   have h10:=h9.Jj
   have h11:Hold s b (.own v8 (.sl 0 (x.kids.map PE.zF)) :: .own v9 (.sl 0 (x.sub.map PE.xu))::H):=h10.sel (.cons 2 rfl rfl (.cons 0 rfl rfl (zK.drop (zK.refl H))))
   have h12:Hold s b (.own v9 (.sl 0 (x.sub.map PE.xu)) :: .own v8 (.sl 0 (x.kids.map PE.zF))::H):=h11.sel (.cons 1 rfl rfl (.cons 0 rfl rfl (zK.refl H)))
   obtain ⟨c8,l8,e8,_⟩:=h11.slc
   obtain ⟨c9,l9,e9,_⟩:=h12.slc
   rw [List.length_map] at e8 e9
   subst e8 e9
   exact ⟨f2 (c8,l8) (c9,l9),rfl,h11⟩
theorem PE.own {s:S} {b:Nat} {H:List BE} {w:PE × (Nat→Nat × Nat)} (h:Hold s b (PE.ob w++H)):Hold s b (.own (PE.ov w) w.1.zF::H):=by
 rw [PE.qK]
 exact h.pack (H':=H) (by unfold PE.v;((repeat' first|(exact qw.nil)|(exact qm.qP rfl)|(exact qm.jS)|(refine' qm.op ?_;((repeat' first|(exact Pick.here)|(refine' Pick.there ?_));done))|(refine' qw.cons ?_ ?_)|(refine' qm.agg ?_));done))
set_option maxRecDepth 100000 in
set_option maxHeartbeats 4000000 in
theorem nM {b:V} (hb:Bytes b):bN Tryz.prog 73 b [] Val.zF (fun x=>x.text.length≤820):=by
 intro s H l i h hi hh
 refine zi.jX Tryz.func73 rfl (by kernel_rfl) ?_
 repeat' first|(refine qj ?_;refine zq.kR zx hh rfl rfl ?_;intro s n hh)|(refine zU ?_;first|(refine zq.zN zx 0 hh rfl rfl rfl rfl rfl rfl rfl rfl rfl ?_;intro s hh)|(refine zq.zN zx 1 hh rfl rfl rfl rfl rfl rfl rfl rfl rfl ?_;intro s hh)|(refine zq.zN zx 2 hh rfl rfl rfl rfl rfl rfl rfl rfl rfl ?_;intro s hh))|(refine kZ ?_;refine' zq.XK zx rfl rfl rfl rfl rfl rfl rfl rfl hh ?_ ?_ ?_;rotate_left 2 ;(focus ((repeat' first|(exact xE.sK rfl rfl));done)) ;(focus ((repeat' first|(exact jM.of rfl));done)) ;intro s n hh)|(refine zy 38 ?_;first|(refine zq.qc 0 rfl rfl vE hh rfl rfl ?_ (zP hb (by omega)) ?_;(focus (first | assumption | omega)) ;intro s x i h hq hi hh ;try dsimp only)|(refine zq.qc 1 rfl rfl vE hh rfl rfl ?_ (zP hb (by omega)) ?_;(focus (first | assumption | omega)) ;intro s x i h hq hi hh ;try dsimp only))|(refine zy 45 ?_;first|(refine zq.qc 0 rfl rfl XC hh rfl rfl ?_ (jg hb) ?_;(focus (first | assumption | omega)) ;intro s x i h hq hi hh ;try dsimp only))|(refine zy 76 ?_;first|(refine zq.qc 1 rfl rfl VZ hh rfl rfl ?_ (vC hb rfl (by simp)) ?_;(focus (first | assumption | omega)) ;intro s x i h hq hi hh ;try dsimp only))|(refine zy 103 ?_;first|(refine zq.qc 1 rfl rfl CS hh rfl rfl ?_ (lQ hb) ?_;(focus (first | assumption | omega)) ;intro s x i h hq hi hh ;try dsimp only))|(refine zf ?_;first|(refine zq.nil ?_)|(refine zq.ev zx rfl ?_)|(refine zo ?_;first|(refine zq.ans (zk.zM zx 1 hh rfl rfl rfl rfl) ?_))|(refine xk ?_;first|(refine zq.ans (zk.sub rfl rfl ?_) ?_;(focus (constructor <;> omega)))))|(refine zH ?_;first|(refine WL.seq ?_)|(refine WL.region (by kernel_rfl) ?_)|(refine WL.block ?_)|(refine WL.skip ?_)|(refine WL.ret ?_)|(refine zu ?_;first|(refine WL.cond rfl (fun h=>?_) (fun h=>?_))))|(refine zw ?_)|(refine zQ ?_)|(refine' zh.r1 (r := .cell 2 45) (.inl rfl) ?_ ?_;rotate_left 1;(focus (first|(exact zn.xM 2 zx hh rfl rfl rfl rfl))))
 any_goals
   apply bN.fin (x:=⟨_,_,_⟩) (hh:=hh)
   case hv=>first | exact Val.vg _ _ _ | rfl
   case hs =>
     first|(refine zK.cons 0 rfl rfl ?_)|(refine zK.cons 1 rfl rfl ?_)|(refine zK.cons 2 rfl rfl ?_)
     repeat' first|(exact zK.refl _)|(refine zK.drop ?_)
   case hi=>assumption
   case hp=>first|(dsimp only;omega)|(dsimp only;have:=vF (n:=4) (by assumption) rfl;omega)
 rename_i nr RZ s5 xv i1 h4 hq1 hi1 RQ s4 nv Pm s3 hh3 s2 x0 i0 h3 hq0 hi0 Da c0 c1 c2 s1 OY s0 hh0
 have hx4:x.length≤4:=vF (by assumption) rfl
 refine WL.yw (fun x:List UInt8 × Int × Int=>400 - x.1.length) (fun _=>[(0,.ptr l 0),(3,.ptr nv 0),(2,.ptr nr 0)]) (fun x => .cell nv [.int .i64 xv.kind,.int .i64 xv.num,.str x.1] :: .cell l (vw b x.2.1 x.2.2) :: .cell nr [.int .i64 0,.int .i64 0,.str []]::H)
   (fun x=>0≤x.2.1∧x.1.length≤820) (x,i,h) ⟨hi,by dsimp only;omega⟩ ⟨rfl,rfl,rfl,trivial⟩ hh ?_ (fun y s hI hh=>?_)
 · repeat' first|(exact zK.refl _)|(refine zK.cons 0 rfl rfl ?_)|(refine zK.cons 1 rfl rfl ?_)|(refine zK.cons 2 rfl rfl ?_)|(refine zK.cons 3 rfl rfl ?_)|(refine zK.drop ?_)
 obtain ⟨t,i,h⟩:=y
 dsimp only at hI hh ⊢
 obtain ⟨hI,ht⟩:=hI
 have hmx:(maxLen:Int)=9223372036854775807:=rfl
 by_cases hlt:(t.length:Int)<400
 · skip
   repeat' first|(refine zU ?_;first|(refine zq.zN zx 1 hh rfl rfl rfl rfl rfl rfl rfl rfl rfl ?_;intro s hh)|(refine zq.zN zx 2 hh rfl rfl rfl rfl rfl rfl rfl rfl rfl ?_;intro s hh))|(refine zy 68 ?_;first|(refine zq.qc 1 rfl rfl wU hh rfl rfl ?_ (qg hb (by omega)) ?_;(focus (first | assumption | omega)) ;intro s x i h hq hi hh ;try dsimp only))|(refine zf ?_;first|(refine zq.nil ?_)|(refine kG ?_;first|(refine zq.gT rfl rfl rfl ?_)|(refine zq.gF rfl rfl rfl ?_)|(refine zq.gC rfl rfl rfl (fun h=>?_) (fun h=>?_)))|(refine zq.ev zx rfl ?_)|(refine zo ?_;first|(refine zq.ans (zk.zM zx 1 hh rfl rfl rfl rfl) ?_))|(refine xk ?_;first|(refine zq.ans (zk.cat rfl rfl ?_) ?_;(focus (first | omega |(simp;omega))))))|(refine zH ?_;first|(refine WL.seq ?_)|(refine WL.region (by kernel_rfl) ?_)|(refine WL.block ?_)|(refine WL.exit ?_)|(refine WL.skip ?_)|(refine WL.ret ?_)|(refine zu ?_;first|(refine WL.qQ rfl ?_)|(refine WL.zJ rfl ?_ ?_;(focus (first|(exact decide_eq_true (by assumption)))))))|(refine zw ?_)|(refine zC ?_)|(refine zQ ?_)|(refine zV ?_)|(refine ko ?_)|(refine' zh.r1 (r := .cell 2 45) (.inl rfl) ?_ ?_;rotate_left 1;(focus (first|(exact zn.xM 2 zx hh rfl rfl rfl rfl))))
   any_goals
     apply bN.fin (x:=⟨_,_,_⟩) (hh:=hh)
     case hv=>first | exact Val.vg _ _ _ | rfl
     case hs =>
       first|(refine zK.cons 0 rfl rfl ?_)|(refine zK.cons 1 rfl rfl ?_)|(refine zK.cons 2 rfl rfl ?_)
       repeat' first|(exact zK.refl _)|(refine zK.drop ?_)
     case hi=>assumption
     case hp=>first|(dsimp only;omega)|(dsimp only;have:=vF (n:=4) (by assumption) rfl;omega)
   rename_i hx _
   refine kW.of ((t++t)++[48,49,50,51,52,53,54,55,56,57],i,hx) ⟨rfl,rfl,rfl,trivial⟩ hh ?_ ?_ ?_
   · repeat' first|(exact zK.refl _)|(refine zK.cons 0 rfl rfl ?_)|(refine zK.cons 1 rfl rfl ?_)|(refine zK.cons 2 rfl rfl ?_)|(refine zK.cons 3 rfl rfl ?_)
   · dsimp only
     exact ⟨by assumption,by simp;omega⟩
   · dsimp only;simp only [List.length_append,List.length_cons,List.length_nil];omega
 · skip
   repeat' first|(refine zU ?_;first|(refine zq.zN zx 2 hh rfl rfl rfl rfl rfl rfl rfl rfl rfl ?_;intro s hh))|(refine zy 68 ?_;first|(refine zq.qc 1 rfl rfl wU hh rfl rfl ?_ (qg hb (by omega)) ?_;(focus (first | assumption | omega)) ;intro s x i h hq hi hh ;try dsimp only))|(refine zf ?_;first|(refine zq.nil ?_)|(refine kG ?_;first|(refine zq.gT rfl rfl rfl ?_)|(refine zq.gF rfl rfl rfl ?_)|(refine zq.gC rfl rfl rfl (fun h=>?_) (fun h=>?_)))|(refine zq.ev zx rfl ?_)|(refine zo ?_;first|(refine zq.ans (zk.zM zx 1 hh rfl rfl rfl rfl) ?_)))|(refine zH ?_;first|(refine WL.seq ?_)|(refine WL.region (by kernel_rfl) ?_)|(refine WL.exit ?_)|(refine WL.ret ?_)|(refine zu ?_;first|(refine WL.qQ rfl ?_)|(refine WL.zY rfl ?_ ?_;(focus (first|(exact decide_eq_false (by assumption)))))))|(refine zw ?_)|(refine zC ?_)|(refine zQ ?_)|(refine zV ?_)|(refine ko ?_)|(refine' zh.r1 (r := .cell 2 45) (.inl rfl) ?_ ?_;rotate_left 1;(focus (first|(exact zn.xM 2 zx hh rfl rfl rfl rfl))))
   any_goals
     apply bN.fin (x:=⟨_,_,_⟩) (hh:=hh)
     case hv=>first | exact Val.vg _ _ _ | rfl
     case hs =>
       first|(refine zK.cons 0 rfl rfl ?_)|(refine zK.cons 1 rfl rfl ?_)|(refine zK.cons 2 rfl rfl ?_)
       repeat' first|(exact zK.refl _)|(refine zK.drop ?_)
     case hi=>assumption
     case hp=>first|(dsimp only;omega)|(dsimp only;have:=vF (n:=4) (by assumption) rfl;omega)
theorem dJ {α : Type} (f : α → V) (l:List α) (x : α):qV (.sl 0 ((l++[x]).map f))=qV (.sl 0 (l.map f))+(1+qV (f x)):=by
 rw [wN,wN]
 simp only [bY,kM,List.map_append,List.sum_append,List.length_append,List.map_cons,List.map_nil,List.sum_cons,List.sum_nil,List.length_cons,List.length_nil]
 omega
theorem WB:qV (PE.xu (⟨[],[],[],[],[],[],false,0⟩:PL))=0:=rfl
theorem Jg:∀ a b:List V,wJ (a++b)=wJ a+wJ b
 | [],b=>by simp [wJ]
 | x::a,b=>by simp only [List.cons_append,wJ,Jg a b];omega
theorem WC (A Z:List V) (d:V):qV (.sl 0 (A++d::Z))=A.length+Z.length+1+wJ A+qV d+wJ Z:=by
 simp only [qV,Jg,wJ,List.length_append,List.length_cons];omega
set_option maxHeartbeats 4000000 in
theorem lV {b:V} (hb:Bytes b):∀ (n:Nat) (w:PE × (Nat→Nat × Nat)),SizeOf.sizeOf w.1<n→qV w.1.v≤100000→jl Tryz.prog 42 b [PE.ov w] (PE.ob w) PE.ov PE.ob (fun y=>qV y.1.v≤qV w.1.v+1000):=by
 intro n
 induction n with
 | zero=>intro w hw;omega
 | succ n ih =>
 intro w hw Pn s H l i h hi hh
 obtain ⟨⟨kind,op,nt,⟨vk,vn,vt⟩,up,pos,kids,sub⟩,f⟩:=w
 dsimp only [PE.ov,PE.ob,PE.kind,PE.op,PE.nt,PE.value,PE.up,PE.pos,PE.kids,PE.sub,List.cons_append,List.nil_append] at hh
 rw [show PE.ov (PE.mk kind op nt ⟨vk,vn,vt⟩ up pos kids sub,f)=V.agg [.int .i64 kind,.int .i64 op,.bool nt,.int .i64 vk,.int .i64 vn,.str vt,.int .i64 up,.int .i64 pos,.qJ (.is (f 0).1) (f 0).2 0 kids.length,.qJ (.is (f 1).1) (f 1).2 0 sub.length] from rfl]
 have hlen:kids.length≤100000∧sub.length≤100000:=by
   have h1:=PE.qC (PE.mk kind op nt ⟨vk,vn,vt⟩ up pos kids sub)
   have h2:=xW PE.zF kids
   have h3:=xW PE.xu sub
   simp only [PE.kids,PE.sub,PE.value] at h1
   dsimp only at Pn
   omega
 refine zi.jX Tryz.func42 rfl (by kernel_rfl) ?_
 by_cases hk:0<kids.length
 · skip
   repeat' first|(refine qW ?_;first|(refine zq.gZ hh rfl rfl ?_;intro s n hh))|(refine qj ?_;refine zq.kR zx hh rfl rfl ?_;intro s n hh)|(refine zU ?_;first|(refine zq.zN zx 1 hh rfl rfl rfl rfl rfl rfl rfl rfl rfl ?_;intro s hh)|(refine zq.zN zx 2 hh rfl rfl rfl rfl rfl rfl rfl rfl rfl ?_;intro s hh)|(refine zq.zN zx 3 hh rfl rfl rfl rfl rfl rfl rfl rfl rfl ?_;intro s hh))|(refine kZ ?_;first|(refine zq.ans (zk.Zb zx rfl rfl rfl rfl rfl rfl rfl rfl ?_) ?_;(focus ((repeat' first|(exact jM.of rfl));done))))|(refine ji ?_;first|(refine' zq.appW zx 4 rfl rfl rfl rfl rfl rfl rfl rfl rfl rfl hh ?_ ?_ ?_ (xU.Ev ?_ rfl) ?_;rotate_left 2 ;(focus (first|(intro x hx;obtain ⟨y,_,rfl⟩:=List.mem_map.1 hx;first | rfl | exact PE.qA _ | exact PE.xC _))) ;(focus ((repeat' first|(exact qw.nil)|(exact qm.qP rfl)|(exact qm.jS)|(refine' qw.cons ?_ ?_)|(refine' qm.agg ?_));done)) ;(focus ((repeat' first|(exact zS.of rfl));done)) ;(focus (first | omega |(simp ;omega))) ;intro s c n hh))|(refine zy 38 ?_;first|(refine zq.qc 0 rfl rfl vE hh rfl rfl ?_ (zP hb (by omega)) ?_;(focus (first | assumption | omega)) ;intro s x i h hq hi hh ;try dsimp only))|(refine zy 68 ?_;first|(refine zq.qc 4 rfl rfl wU hh rfl rfl ?_ (qg hb (by omega)) ?_;(focus (first | assumption | omega)) ;intro s x i h hq hi hh ;try dsimp only))|(refine zy 45 ?_;first|(refine zq.qc 0 rfl rfl XC hh rfl rfl ?_ (jg hb) ?_;(focus (first | assumption | omega)) ;intro s x i h hq hi hh ;try dsimp only))|(refine zy 73 ?_;first|(refine zq.qc 0 rfl rfl Hg hh rfl rfl ?_ (nM hb) ?_;(focus (first | assumption | omega)) ;intro s x i h hq hi hh ;try dsimp only))|(refine zf ?_;first|(refine zq.nil ?_)|(refine kG ?_;first|(refine zq.gT rfl rfl rfl ?_)|(refine zq.gD true rfl rfl rfl ?_ ?_;(focus (first|(simp only [decide_eq_true_eq,decide_eq_false_iff_not,Bool.not_eq_true',Bool.not_eq_false',Int.ofNat_lt,Int.ofNat_le,Int.ofNat_inj,not_true_eq_false,not_false_eq_true];omega)))))|(refine' zq.ans (v := .agg _) (zk.jV zx rfl rfl rfl rfl ?_) ?_;rotate_left 1;(focus ((repeat' first|(exact Fills.nil));done)))|(refine zq.ev zx rfl ?_)|(refine zo ?_;first|(refine zq.ans (zk.zM zx 1 hh rfl rfl rfl rfl) ?_)|(refine zq.ans (zk.zM zx 2 hh rfl rfl rfl rfl) ?_)|(refine zq.ans (zk.zM zx 3 hh rfl rfl rfl rfl) ?_)))|(refine zH ?_;first|(refine WL.seq ?_)|(refine WL.region (by kernel_rfl) ?_)|(refine WL.block ?_)|(refine WL.skip ?_)|(refine WL.ret ?_)|(refine zu ?_;first|(refine WL.cond rfl (fun h=>?_) (fun h=>?_))))|(refine zw ?_)|(refine zQ ?_)|(refine' zh.r1 (r := .cell 4 48) (.inl rfl) ?_ ?_;rotate_left 1;(focus (first|(exact zn.xM 1 zx hh rfl rfl rfl rfl)|(exact zn.xM 2 zx hh rfl rfl rfl rfl))))
   · obtain ⟨k, rfl⟩ := Int.eq_ofNat_of_zero_le hq.1
     have hkl:k<kids.length:=by omega
     have hsp:kids.map PE.zF=(kids.take k).map PE.zF++kids[k].zF::(kids.drop (k+1)).map PE.zF:=by
       rw [← List.map_cons, ← List.map_append,List.getElem_cons_drop,List.take_append_drop]
     have hsk:SizeOf.sizeOf kids[k]<SizeOf.sizeOf (PE.mk kind op nt ⟨vk,vn,vt⟩ up pos kids sub):=PE.Ab (List.getElem_mem hkl)
     have hwk:=uw (f:=PE.zF) (List.getElem_mem hkl)
     have Dc:=PE.qC (PE.mk kind op nt ⟨vk,vn,vt⟩ up pos kids sub)
     simp only [PE.kids,PE.sub,PE.value] at Dc
     rw [PE.qK] at hwk
     have hcl:∀ x∈(kids.take k).map PE.zF++kids[k].zF::(kids.drop (k+1)).map PE.zF,x.cells.length=10:=by
       rw [← hsp]
       intro x hx
       obtain ⟨y,_,rfl⟩:=List.mem_map.1 hx
       exact PE.qA y
     rw [hsp] at hh
     obtain ⟨A,Z,u,rest,hA,hr,hnc,hn,hh⟩:=Hold.lq 10 (hh.sel (.cons 3 rfl rfl (zK.refl _))) hcl
     obtain ⟨w2,rfl,hh⟩:=PE.rY (hh.sel (.cons 1 rfl rfl (zK.refl _)))
     rw [List.length_map,List.length_take,Nat.min_eq_left (by omega)] at hA
     dsimp only [PE.ob,List.cons_append,List.nil_append] at hh
     have hB:=ih (kids[k],w2) (by dsimp only at hw ⊢;omega) (by dsimp only at Pn ⊢;omega)
     repeat' first|(refine zU ?_;first|(refine zq.zN zx 6 hh rfl rfl rfl rfl rfl rfl rfl rfl rfl ?_;intro s hh))|(refine zy 42 ?_;first|(refine' zq.jF 3 rfl rfl Ei hh (hB) ?_ ?_ ?_ ?_ ?_;rotate_left 4 ;(focus ((repeat' first|(exact Takes.nil)|(apply Takes.p;(focus (((repeat' first|(exact Pick.here));done)))));done)) ;(focus rfl) ;(focus rfl) ;(focus (first | assumption | omega)) ;intro s y i h hq hi hh ;try dsimp only [List.cons_append,List.nil_append] at hh))|(refine zU ?_;first|(refine zq.ak (q:=k*10) zx 3 0 hh rfl rfl hA rfl rfl rfl rfl rfl rfl rfl rfl rfl ?_;intro s hh))|(refine zf ?_;first|(refine zq.nil ?_)|(refine zo ?_;first|(refine zq.ans (zk.zM zx 7 hh rfl rfl rfl rfl) ?_)))|(refine zH ?_;first|(refine WL.seq ?_)|(refine WL.region (by kernel_rfl) ?_)|(refine WL.drawn (id:=3) [0,1,2,3,4,5,6,7,8,9,10,11] [9,11] [[],[0],[],[],[],[4],[],[4,5,6],[4,5,6,7],[3,4,5,6,7,8],[0,1,2,3,4,5,6,7,8,9],[0,1,2,3,4,5,6,7,8,9,10]] (by kernel_rfl) (by kernel_rfl) ?_)|(refine WL.ret ?_))|(refine vN ?_;first|(refine zA.nil ?_)|(refine zA.fl rfl rfl (.ev zx rfl) ?_)|(refine qo rfl ?_;first|(refine zA.fl rfl rfl (zk.zM zx 7 hh rfl rfl rfl rfl) ?_)|(refine zA.fl rfl rfl (zk.pJ (q:=k*10) zx 2 0 hh rfl rfl hA rfl rfl rfl rfl) ?_))|(refine kQ rfl ?_;first|(refine zA.fl rfl rfl (zk.Ea zx rfl rfl rfl rfl rfl hkl) ?_))|(refine zA.iY rfl rfl rfl ?_))|(refine zw ?_)|(refine zZ ?_)|(refine' zh.r1 (r := .cell 4 48) (.inl rfl) ?_ ?_;rotate_left 1;(focus (first|(exact zn.xM 6 zx hh rfl rfl rfl rfl))))|(refine And.intro ?_ ?_)|(exact xR.nil)|(refine xR.cons ?_ ?_)|(refine jG.fl rfl rfl (.ev zx rfl))|(refine jG.fl rfl rfl (zk.zM zx 7 hh rfl rfl rfl rfl))
     have h1:=PE.own (w:=y) hh
     have h2:=h1.sel (.cons 2 rfl rfl (.cons 0 rfl rfl (.cons 1 rfl rfl (.cons 1 rfl rfl (zK.refl _)))))
     have hnl:(kids.take k).map PE.zF++y.1.zF::(kids.drop (k+1)).map PE.zF=(kids.set k y.1).map PE.zF:=by
       rw [List.set_eq_take_append_cons_drop,if_pos hkl,List.map_append,List.map_cons]
     have h3:=Hold.QG 10 h2 rfl (by
       rw [hnl]
       intro x hx
       obtain ⟨y,_,rfl⟩:=List.mem_map.1 hx
       exact PE.qA y) hr hnc (by rw [hn];simp only [List.length_append,List.length_cons])
     rw [hnl] at h3
     replace hh:=h3
     rw [show kids.length=(kids.set k y.1).length by simp] at hh ⊢
     apply jl.fin (y:=(PE.mk _ _ _ ⟨_,_,_⟩ _ _ (kids.set k y.1) sub,f2 (f 0) (f 1))) (hh:=hh)
     case hv=>rfl
     case hi=>assumption
     case hs =>
       dsimp only [PE.ob,PE.kids,PE.sub,f2,List.cons_append,List.nil_append]
       (repeat' first|(exact zK.nil)|(exact zK.refl _)|(refine' zK.p ?_ ?_;rotate_left 1;(focus (((repeat' first|(exact Pick.here)|(refine' Pick.there ?_));done)))))
       (repeat' first|(exact zK.refl _)|(refine zK.drop ?_))
     case hp =>
       dsimp only
       rw [PE.qC,PE.qC]
       simp only [PE.value,PE.kids,PE.sub]
       rw [← hnl,hsp,WC,WC,PE.qK,PE.qK]
       dsimp only at hq
       omega
   all_goals
     first
       | skip
         skip
         apply jl.fin (y:=(PE.mk _ _ _ ⟨_,_,_⟩ _ _ kids sub,f2 (f 0) (f 1))) (hh:=hh)
         case hv=>rfl
         case hi=>assumption
         case hs =>
           dsimp only [PE.ob,PE.kids,PE.sub,f2,List.cons_append,List.nil_append]
           (repeat' first|(exact zK.nil)|(exact zK.refl _)|(refine' zK.p ?_ ?_;rotate_left 1;(focus (((repeat' first|(exact Pick.here)|(refine' Pick.there ?_));done)))))
           (repeat' first|(exact zK.refl _)|(refine zK.drop ?_))
         case hp =>
           dsimp only
           rw [PE.qC,PE.qC]
           simp only [PE.value,PE.kids,PE.sub]
           omega
       | skip
         rw [show sub.map PE.xu++[V.agg [.sl 0 [],.sl 0 [],.sl 0 [],.sl 0 [],.sl 0 [],.sl 0 [],.bool false,.int .i64 0]]=(sub++[(⟨[],[],[],[],[],[],false,0⟩:PL)]).map PE.xu by rw [List.map_append];rfl] at hh
         rw [show ∀ z:V,(sub.map PE.xu).length+[z].length=(sub++[(⟨[],[],[],[],[],[],false,0⟩:PL)]).length from fun _=>by simp] at hh ⊢
         apply jl.fin (y:=(PE.mk _ _ _ ⟨_,_,_⟩ _ _ kids (sub++[(⟨[],[],[],[],[],[],false,0⟩:PL)]),f2 (f 0) (_,_))) (hh:=hh)
         case hv=>rfl
         case hi=>assumption
         case hs =>
           dsimp only [PE.ob,PE.kids,PE.sub,f2,List.cons_append,List.nil_append]
           (repeat' first|(exact zK.nil)|(exact zK.refl _)|(refine' zK.p ?_ ?_;rotate_left 1;(focus (((repeat' first|(exact Pick.here)|(refine' Pick.there ?_));done)))))
           (repeat' first|(exact zK.refl _)|(refine zK.drop ?_))
         case hp =>
           dsimp only
           rw [PE.qC,PE.qC]
           simp only [PE.value,PE.kids,PE.sub]
           rw [dJ,WB]
           omega
 · skip
   repeat' first|(refine qW ?_;first|(refine zq.gZ hh rfl rfl ?_;intro s n hh))|(refine qj ?_;refine zq.kR zx hh rfl rfl ?_;intro s n hh)|(refine zU ?_;first|(refine zq.zN zx 1 hh rfl rfl rfl rfl rfl rfl rfl rfl rfl ?_;intro s hh)|(refine zq.zN zx 2 hh rfl rfl rfl rfl rfl rfl rfl rfl rfl ?_;intro s hh)|(refine zq.zN zx 3 hh rfl rfl rfl rfl rfl rfl rfl rfl rfl ?_;intro s hh))|(refine kZ ?_;first|(refine zq.ans (zk.Zb zx rfl rfl rfl rfl rfl rfl rfl rfl ?_) ?_;(focus ((repeat' first|(exact jM.of rfl));done))))|(refine ji ?_;first|(refine' zq.appW zx 4 rfl rfl rfl rfl rfl rfl rfl rfl rfl rfl hh ?_ ?_ ?_ (xU.Ev ?_ rfl) ?_;rotate_left 2 ;(focus (first|(intro x hx;obtain ⟨y,_,rfl⟩:=List.mem_map.1 hx;first | rfl | exact PE.qA _ | exact PE.xC _))) ;(focus ((repeat' first|(exact qw.nil)|(exact qm.qP rfl)|(exact qm.jS)|(refine' qw.cons ?_ ?_)|(refine' qm.agg ?_));done)) ;(focus ((repeat' first|(exact zS.of rfl));done)) ;(focus (first | omega |(simp ;omega))) ;intro s c n hh))|(refine zy 38 ?_;first|(refine zq.qc 4 rfl rfl vE hh rfl rfl ?_ (zP hb (by omega)) ?_;(focus (first | assumption | omega)) ;intro s x i h hq hi hh ;try dsimp only))|(refine zy 45 ?_;first|(refine zq.qc 0 rfl rfl XC hh rfl rfl ?_ (jg hb) ?_;(focus (first | assumption | omega)) ;intro s x i h hq hi hh ;try dsimp only))|(refine zy 73 ?_;first|(refine zq.qc 0 rfl rfl Hg hh rfl rfl ?_ (nM hb) ?_;(focus (first | assumption | omega)) ;intro s x i h hq hi hh ;try dsimp only))|(refine zf ?_;first|(refine zq.nil ?_)|(refine kG ?_;first|(refine zq.gF rfl rfl rfl ?_)|(refine zq.gD false rfl rfl rfl ?_ ?_;(focus (first|(simp only [decide_eq_true_eq,decide_eq_false_iff_not,Bool.not_eq_true',Bool.not_eq_false',Int.ofNat_lt,Int.ofNat_le,Int.ofNat_inj,not_true_eq_false,not_false_eq_true];omega)))))|(refine' zq.ans (v := .agg _) (zk.jV zx rfl rfl rfl rfl ?_) ?_;rotate_left 1;(focus ((repeat' first|(exact Fills.nil));done)))|(refine zq.ev zx rfl ?_)|(refine zo ?_;first|(refine zq.ans (zk.zM zx 1 hh rfl rfl rfl rfl) ?_)|(refine zq.ans (zk.zM zx 2 hh rfl rfl rfl rfl) ?_)|(refine zq.ans (zk.zM zx 3 hh rfl rfl rfl rfl) ?_)))|(refine zH ?_;first|(refine WL.seq ?_)|(refine WL.region (by kernel_rfl) ?_)|(refine WL.block ?_)|(refine WL.skip ?_)|(refine WL.ret ?_)|(refine zu ?_;first|(refine WL.qQ rfl ?_)|(refine WL.cond rfl (fun h=>?_) (fun h=>?_))))|(refine zw ?_)|(refine zQ ?_)|(refine' zh.r1 (r := .cell 4 48) (.inl rfl) ?_ ?_;rotate_left 1;(focus (first|(exact zn.xM 1 zx hh rfl rfl rfl rfl)|(exact zn.xM 2 zx hh rfl rfl rfl rfl))))
   all_goals
     first
       | skip
         skip
         apply jl.fin (y:=(PE.mk _ _ _ ⟨_,_,_⟩ _ _ kids sub,f2 (f 0) (f 1))) (hh:=hh)
         case hv=>rfl
         case hi=>assumption
         case hs =>
           dsimp only [PE.ob,PE.kids,PE.sub,f2,List.cons_append,List.nil_append]
           (repeat' first|(exact zK.nil)|(exact zK.refl _)|(refine' zK.p ?_ ?_;rotate_left 1;(focus (((repeat' first|(exact Pick.here)|(refine' Pick.there ?_));done)))))
           (repeat' first|(exact zK.refl _)|(refine zK.drop ?_))
         case hp =>
           dsimp only
           rw [PE.qC,PE.qC]
           simp only [PE.value,PE.kids,PE.sub]
           omega
       | skip
         rw [show sub.map PE.xu++[V.agg [.sl 0 [],.sl 0 [],.sl 0 [],.sl 0 [],.sl 0 [],.sl 0 [],.bool false,.int .i64 0]]=(sub++[(⟨[],[],[],[],[],[],false,0⟩:PL)]).map PE.xu by rw [List.map_append];rfl] at hh
         rw [show ∀ z:V,(sub.map PE.xu).length+[z].length=(sub++[(⟨[],[],[],[],[],[],false,0⟩:PL)]).length from fun _=>by simp] at hh ⊢
         apply jl.fin (y:=(PE.mk _ _ _ ⟨_,_,_⟩ _ _ kids (sub++[(⟨[],[],[],[],[],[],false,0⟩:PL)]),f2 (f 0) (_,_))) (hh:=hh)
         case hv=>rfl
         case hi=>assumption
         case hs =>
           dsimp only [PE.ob,PE.kids,PE.sub,f2,List.cons_append,List.nil_append]
           (repeat' first|(exact zK.nil)|(exact zK.refl _)|(refine' zK.p ?_ ?_;rotate_left 1;(focus (((repeat' first|(exact Pick.here)|(refine' Pick.there ?_));done)))))
           (repeat' first|(exact zK.refl _)|(refine zK.drop ?_))
         case hp =>
           dsimp only
           rw [PE.qC,PE.qC]
           simp only [PE.value,PE.kids,PE.sub]
           rw [dJ,WB]
           omega
end Go.Proofs.YtolhegocbkckdaaGreat
