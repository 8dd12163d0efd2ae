/-
 Plans' trees bent: one of what is drawn is changed, in place. Own work; no condition.
-/
import Derived.Test.YtolhegocbkckdaaMg35
import Derived.Test.YtolhegocbkckdaaDPd2
namespace Go.Proofs.Ytolhegocbkckdaa
open Go
set_option linter.unusedSimpArgs false
set_option linter.unusedVariables false
theorem PE.unown {s:S} {b:Nat} {H:List BE} {u:V} {x:PE} (h:Hold s b (.own u x.toV::H)):∃ w:Nat→Nat × Nat,u=PE.ov (x,w)∧Hold s b (PE.ob (x,w)++H):=by
 rw [PE.toV_eq] at h
 obtain ⟨vs,rfl,hl⟩:=h.aggOk
 match vs,hl with
 | [v0,v1,v2,v3,v4,v5,v6,v7,v8,v9],_ =>
   unfold PE.v at h
   obtain ⟨e0,g0⟩:=h.unscal rfl
   obtain ⟨e1,g1⟩:=g0.unscal rfl
   obtain ⟨e2,g2⟩:=g1.unscal rfl
   obtain ⟨e3,g3⟩:=g2.unscal rfl
   obtain ⟨e4,g4⟩:=g3.unscal rfl
   obtain ⟨e5,g5⟩:=g4.unscal rfl
   obtain ⟨e6,g6⟩:=g5.unscal rfl
   obtain ⟨e7,g7⟩:=g6.unscal rfl
   subst e0 e1 e2 e3 e4 e5 e6 e7
   have h8:=g7.unagg
   have h9:Hold s b (.own (.agg [v9]) (.agg [.sl 0 (x.sub.map PE.planV)]) :: .own v8 (.sl 0 (x.kids.map PE.toV))::H):=h8.sel (.cons 1 rfl rfl (.cons 0 rfl rfl (Sel.refl H)))
   have h10:=h9.unagg
   have h11:Hold s b (.own v8 (.sl 0 (x.kids.map PE.toV)) :: .own v9 (.sl 0 (x.sub.map PE.planV))::H):=h10.sel (.cons 2 rfl rfl (.cons 0 rfl rfl (Sel.drop (Sel.refl H))))
   have h12:Hold s b (.own v9 (.sl 0 (x.sub.map PE.planV)) :: .own v8 (.sl 0 (x.kids.map PE.toV))::H):=h11.sel (.cons 1 rfl rfl (.cons 0 rfl rfl (Sel.refl H)))
   obtain ⟨c8,l8,e8,_⟩:=h11.slc
   obtain ⟨c9,l9,e9,_⟩:=h12.slc
   rw [List.length_map] at e8 e9
   subst e8 e9
   exact ⟨f2 (c8,l8) (c9,l9),rfl,h11⟩
theorem PE.own {s:S} {b:Nat} {H:List BE} {w:PE × (Nat→Nat × Nat)} (h:Hold s b (PE.ob w++H)):Hold s b (.own (PE.ov w) w.1.toV::H):=by
 rw [PE.toV_eq]
 exact h.pack (H':=H) (by unfold PE.v;((repeat' first |(exact ConsOL.nil) |(exact ConsO.scal rfl) |(exact ConsO.slm0) |(refine' ConsO.op ?_;((repeat' first |(exact Pick.here) |(refine' Pick.there ?_));done)) |(refine' ConsOL.cons ?_ ?_) |(refine' ConsO.agg ?_));done))
set_option maxRecDepth 100000 in
set_option maxHeartbeats 4000000 in
theorem specl5Bent_d {b:V} (hb:Bytes b):Drw Try.prog 100 b [] Val.toV (fun x=>x.text.length≤820):=by
 intro s H l i h hi hh
 refine LCalls.body0 Try.func100 rfl (by kernel_rfl) ?_
 repeat' first |(refine kAlloc ?_ ;refine LOps.allocH tT_ok hh rfl rfl ?_ ;intro s n hh) |(refine kStore ?_ ;first |(refine LOps.storeH tT_ok 0 hh rfl rfl rfl rfl rfl rfl rfl rfl rfl ?_ ;intro s hh) |(refine LOps.storeH tT_ok 1 hh rfl rfl rfl rfl rfl rfl rfl rfl rfl ?_ ;intro s hh) |(refine LOps.storeH tT_ok 2 hh rfl rfl rfl rfl rfl rfl rfl rfl rfl ?_ ;intro s hh)) |(refine kBsl ?_ ;refine' LOps.bslH tT_ok rfl rfl rfl rfl rfl rfl rfl rfl hh ?_ ?_ ?_ ;rotate_left 2 ;(focus ((repeat' first |(exact ConsL.pls rfl rfl));done)) ;(focus ((repeat' first |(exact ElsH.of rfl));done)) ;intro s n hh) |(refine kCallN 59 ?_ ;first |(refine LOps.drawH 0 rfl rfl ok59 hh rfl rfl ?_ (specl1Below_d hb (by omega)) ?_ ;(focus (first | assumption | omega)) ;intro s x i h hq hi hh ;try dsimp only) |(refine LOps.drawH 1 rfl rfl ok59 hh rfl rfl ?_ (specl1Below_d hb (by omega)) ?_ ;(focus (first | assumption | omega)) ;intro s x i h hq hi hh ;try dsimp only)) |(refine kCallN 87 ?_ ;first |(refine LOps.drawH 0 rfl rfl ok87 hh rfl rfl ?_ (specl1Whole_d hb) ?_ ;(focus (first | assumption | omega)) ;intro s x i h hq hi hh ;try dsimp only)) |(refine kCallN 92 ?_ ;first |(refine LOps.drawH 1 rfl rfl ok92 hh rfl rfl ?_ (specl1Pick_d hb rfl (by simp)) ?_ ;(focus (first | assumption | omega)) ;intro s x i h hq hi hh ;try dsimp only)) |(refine kCallN 128 ?_ ;first |(refine LOps.drawH 1 rfl rfl ok128 hh rfl rfl ?_ (specl5Right_d hb) ?_ ;(focus (first | assumption | omega)) ;intro s x i h hq hi hh ;try dsimp only)) |(refine kOps ?_;first |(refine LOps.nil ?_) |(refine LOps.ev tT_ok rfl ?_) |(refine kLoad ?_;first |(refine LOps.ans (AnsL.loadH tT_ok 1 hh rfl rfl rfl rfl) ?_)) |(refine kBin ?_;first |(refine LOps.ans (AnsL.sub rfl rfl ?_) ?_;(focus (constructor <;> omega))))) |(refine kWL ?_;first |(refine WL.seq ?_) |(refine WL.region (by kernel_rfl) ?_) |(refine WL.block ?_) |(refine WL.skip ?_) |(refine WL.ret ?_) |(refine kCond ?_;first |(refine WL.cond rfl (fun h=>?_) (fun h=>?_)))) |(refine lthen_n ?_) |(refine lblock_n ?_) |(refine' LPost.r1 (r := .cell 2 25) (.inl rfl) ?_ ?_;rotate_left 1;(focus (first | exact Res1.cellH 0 tT_ok hh rfl rfl rfl rfl | exact Res1.cellH 1 tT_ok hh rfl rfl rfl rfl | exact Res1.cellH 2 tT_ok hh rfl rfl rfl rfl | exact Res1.cellH 3 tT_ok hh rfl rfl rfl rfl | exact Res1.cellH 4 tT_ok hh rfl rfl rfl rfl | exact Res1.cellH 5 tT_ok hh rfl rfl rfl rfl | exact Res1.cellH 6 tT_ok hh rfl rfl rfl rfl | exact Res1.cellH 7 tT_ok hh rfl rfl rfl rfl | exact Res1.cellHW 0 tT_ok hh rfl rfl rfl rfl | exact Res1.cellHW 1 tT_ok hh rfl rfl rfl rfl | exact Res1.cellHW 2 tT_ok hh rfl rfl rfl rfl | exact Res1.cellHW 3 tT_ok hh rfl rfl rfl rfl | exact Res1.cellHW 4 tT_ok hh rfl rfl rfl rfl | exact Res1.cellHW 5 tT_ok hh rfl rfl rfl rfl | exact Res1.cellHW 6 tT_ok hh rfl rfl rfl rfl | exact Res1.cellHW 7 tT_ok hh rfl rfl rfl rfl)))
 any_goals
   apply Drw.fin (x:=⟨_,_,_⟩) (hh:=hh)
   case hv=>first | exact Val.agg_eq _ _ _ | rfl
   case hs =>
     first |(refine Sel.cons 0 rfl rfl ?_) |(refine Sel.cons 1 rfl rfl ?_) |(refine Sel.cons 2 rfl rfl ?_)
     repeat' first |(exact Sel.refl _) |(refine Sel.drop ?_)
   case hi=>assumption
   case hp=>first |(dsimp only;omega) |(dsimp only;have:=pick_len (n:=4) (by assumption) rfl;omega)
 rename_i nr hh6 s5 xv i1 h4 hq1 hi1 hh5 s4 nv hh4 s3 hh3 s2 x0 i0 h3 hq0 hi0 hh2 c0 c1 c2 s1 hh1 s0 hh0
 have hx4:x.length≤4:=pick_len (by assumption) rfl
 refine WL.loopH (fun x:List UInt8 × Int × Int=>400 - x.1.length) (fun _=>[(0,.ptr l 0),(3,.ptr nv 0),(2,.ptr nr 0)]) (fun x => .cell nv [.int .i64 xv.kind,.int .i64 xv.num,.str x.1] :: .cell l (curC b x.2.1 x.2.2) :: .cell nr [.int .i64 0,.int .i64 0,.str []]::H)
   (fun x=>0≤x.2.1∧x.1.length≤820) (x,i,h) ⟨hi,by dsimp only;omega⟩ ⟨rfl,rfl,rfl,trivial⟩ hh ?_ (fun y s hI hh=>?_)
 · repeat' first |(exact Sel.refl _) |(refine Sel.cons 0 rfl rfl ?_) |(refine Sel.cons 1 rfl rfl ?_) |(refine Sel.cons 2 rfl rfl ?_) |(refine Sel.cons 3 rfl rfl ?_) |(refine Sel.drop ?_)
 obtain ⟨t,i,h⟩:=y
 dsimp only at hI hh ⊢
 obtain ⟨hI,ht⟩:=hI
 have hmx:(maxLen:Int)=9223372036854775807:=rfl
 by_cases hlt:(t.length:Int)<400
 · skip
   repeat' first |(refine kStore ?_ ;first |(refine LOps.storeH tT_ok 1 hh rfl rfl rfl rfl rfl rfl rfl rfl rfl ?_ ;intro s hh) |(refine LOps.storeH tT_ok 2 hh rfl rfl rfl rfl rfl rfl rfl rfl rfl ?_ ;intro s hh)) |(refine kCallN 72 ?_ ;first |(refine LOps.drawH 1 rfl rfl ok72 hh rfl rfl ?_ (specl1Once_d hb (by omega)) ?_ ;(focus (first | assumption | omega)) ;intro s x i h hq hi hh ;try dsimp only)) |(refine kOps ?_;first |(refine LOps.nil ?_) |(refine kG ?_;first |(refine LOps.gT rfl rfl rfl ?_) |(refine LOps.gF rfl rfl rfl ?_) |(refine LOps.gC rfl rfl rfl (fun h=>?_) (fun h=>?_))) |(refine LOps.ev tT_ok rfl ?_) |(refine kLoad ?_;first |(refine LOps.ans (AnsL.loadH tT_ok 1 hh rfl rfl rfl rfl) ?_)) |(refine kBin ?_;first |(refine LOps.ans (AnsL.cat rfl rfl ?_) ?_;(focus (first | omega |(simp;omega)))))) |(refine kWL ?_;first |(refine WL.seq ?_) |(refine WL.region (by kernel_rfl) ?_) |(refine WL.block ?_) |(refine WL.exit ?_) |(refine WL.skip ?_) |(refine WL.ret ?_) |(refine kCond ?_;first |(refine WL.condF rfl ?_) |(refine WL.condT' rfl ?_ ?_;(focus (first |(exact decide_eq_true (by assumption))))))) |(refine lthen_n ?_) |(refine lthen_e ?_) |(refine lblock_n ?_) |(refine lblock_e ?_) |(refine lbackH_e ?_) |(refine' LPost.r1 (r := .cell 2 25) (.inl rfl) ?_ ?_;rotate_left 1;(focus (first | exact Res1.cellH 0 tT_ok hh rfl rfl rfl rfl | exact Res1.cellH 1 tT_ok hh rfl rfl rfl rfl | exact Res1.cellH 2 tT_ok hh rfl rfl rfl rfl | exact Res1.cellH 3 tT_ok hh rfl rfl rfl rfl | exact Res1.cellH 4 tT_ok hh rfl rfl rfl rfl | exact Res1.cellH 5 tT_ok hh rfl rfl rfl rfl | exact Res1.cellH 6 tT_ok hh rfl rfl rfl rfl | exact Res1.cellH 7 tT_ok hh rfl rfl rfl rfl | exact Res1.cellHW 0 tT_ok hh rfl rfl rfl rfl | exact Res1.cellHW 1 tT_ok hh rfl rfl rfl rfl | exact Res1.cellHW 2 tT_ok hh rfl rfl rfl rfl | exact Res1.cellHW 3 tT_ok hh rfl rfl rfl rfl | exact Res1.cellHW 4 tT_ok hh rfl rfl rfl rfl | exact Res1.cellHW 5 tT_ok hh rfl rfl rfl rfl | exact Res1.cellHW 6 tT_ok hh rfl rfl rfl rfl | exact Res1.cellHW 7 tT_ok hh rfl rfl rfl rfl)))
   any_goals
     apply Drw.fin (x:=⟨_,_,_⟩) (hh:=hh)
     case hv=>first | exact Val.agg_eq _ _ _ | rfl
     case hs =>
       first |(refine Sel.cons 0 rfl rfl ?_) |(refine Sel.cons 1 rfl rfl ?_) |(refine Sel.cons 2 rfl rfl ?_)
       repeat' first |(exact Sel.refl _) |(refine Sel.drop ?_)
     case hi=>assumption
     case hp=>first |(dsimp only;omega) |(dsimp only;have:=pick_len (n:=4) (by assumption) rfl;omega)
   rename_i hx _
   refine lbackH.of ((t++t)++[48,49,50,51,52,53,54,55,56,57],i,hx) ⟨rfl,rfl,rfl,trivial⟩ hh ?_ ?_ ?_
   · repeat' first |(exact Sel.refl _) |(refine Sel.cons 0 rfl rfl ?_) |(refine Sel.cons 1 rfl rfl ?_) |(refine Sel.cons 2 rfl rfl ?_) |(refine Sel.cons 3 rfl rfl ?_)
   · dsimp only
     exact ⟨by assumption,by simp;omega⟩
   · dsimp only;simp only [List.length_append,List.length_cons,List.length_nil];omega
 · skip
   repeat' first |(refine kStore ?_ ;first |(refine LOps.storeH tT_ok 2 hh rfl rfl rfl rfl rfl rfl rfl rfl rfl ?_ ;intro s hh)) |(refine kCallN 72 ?_ ;first |(refine LOps.drawH 1 rfl rfl ok72 hh rfl rfl ?_ (specl1Once_d hb (by omega)) ?_ ;(focus (first | assumption | omega)) ;intro s x i h hq hi hh ;try dsimp only)) |(refine kOps ?_;first |(refine LOps.nil ?_) |(refine kG ?_;first |(refine LOps.gT rfl rfl rfl ?_) |(refine LOps.gF rfl rfl rfl ?_) |(refine LOps.gC rfl rfl rfl (fun h=>?_) (fun h=>?_))) |(refine LOps.ev tT_ok rfl ?_) |(refine kLoad ?_;first |(refine LOps.ans (AnsL.loadH tT_ok 1 hh rfl rfl rfl rfl) ?_))) |(refine kWL ?_;first |(refine WL.seq ?_) |(refine WL.region (by kernel_rfl) ?_) |(refine WL.exit ?_) |(refine WL.ret ?_) |(refine kCond ?_;first |(refine WL.condF rfl ?_) |(refine WL.condF' rfl ?_ ?_;(focus (first |(exact decide_eq_false (by assumption))))))) |(refine lthen_n ?_) |(refine lthen_e ?_) |(refine lblock_n ?_) |(refine lblock_e ?_) |(refine lbackH_e ?_) |(refine' LPost.r1 (r := .cell 2 25) (.inl rfl) ?_ ?_;rotate_left 1;(focus (first | exact Res1.cellH 0 tT_ok hh rfl rfl rfl rfl | exact Res1.cellH 1 tT_ok hh rfl rfl rfl rfl | exact Res1.cellH 2 tT_ok hh rfl rfl rfl rfl | exact Res1.cellH 3 tT_ok hh rfl rfl rfl rfl | exact Res1.cellH 4 tT_ok hh rfl rfl rfl rfl | exact Res1.cellH 5 tT_ok hh rfl rfl rfl rfl | exact Res1.cellH 6 tT_ok hh rfl rfl rfl rfl | exact Res1.cellH 7 tT_ok hh rfl rfl rfl rfl | exact Res1.cellHW 0 tT_ok hh rfl rfl rfl rfl | exact Res1.cellHW 1 tT_ok hh rfl rfl rfl rfl | exact Res1.cellHW 2 tT_ok hh rfl rfl rfl rfl | exact Res1.cellHW 3 tT_ok hh rfl rfl rfl rfl | exact Res1.cellHW 4 tT_ok hh rfl rfl rfl rfl | exact Res1.cellHW 5 tT_ok hh rfl rfl rfl rfl | exact Res1.cellHW 6 tT_ok hh rfl rfl rfl rfl | exact Res1.cellHW 7 tT_ok hh rfl rfl rfl rfl)))
   any_goals
     apply Drw.fin (x:=⟨_,_,_⟩) (hh:=hh)
     case hv=>first | exact Val.agg_eq _ _ _ | rfl
     case hs =>
       first |(refine Sel.cons 0 rfl rfl ?_) |(refine Sel.cons 1 rfl rfl ?_) |(refine Sel.cons 2 rfl rfl ?_)
       repeat' first |(exact Sel.refl _) |(refine Sel.drop ?_)
     case hi=>assumption
     case hp=>first |(dsimp only;omega) |(dsimp only;have:=pick_len (n:=4) (by assumption) rfl;omega)
theorem wgt_snoc {α : Type} (f : α → V) (l:List α) (x : α):wgt (.sl 0 ((l++[x]).map f))=wgt (.sl 0 (l.map f))+(1+wgt (f x)):=by
 rw [wgt_sl,wgt_sl]
 simp only [slW,sumW,List.map_append,List.sum_append,List.length_append,List.map_cons,List.map_nil,List.sum_cons,List.sum_nil,List.length_cons,List.length_nil]
 omega
theorem wgt_pl0:wgt (PE.planV (⟨[],[],[],[],[],[],false,0⟩:PL))=0:=rfl
theorem wgtL_app:∀ a b:List V,wgtL (a++b)=wgtL a+wgtL b
 | [],b=>by simp [wgtL]
 | x::a,b=>by simp only [List.cons_append,wgtL,wgtL_app a b];omega
theorem wgt_mid (A Z:List V) (d:V):wgt (.sl 0 (A++d::Z))=A.length+Z.length+1+wgtL A+wgt d+wgtL Z:=by
 simp only [wgt,wgtL_app,wgtL,List.length_append,List.length_cons];omega
set_option maxHeartbeats 4000000 in
theorem specl19Bent_d {b:V} (hb:Bytes b):∀ (n:Nat) (w:PE × (Nat→Nat × Nat)),SizeOf.sizeOf w.1<n→wgt w.1.v≤100000→DrwB Try.prog 61 b [PE.ov w] (PE.ob w) PE.ov PE.ob (fun y=>wgt y.1.v≤wgt w.1.v+1000):=by
 intro n
 induction n with
 | zero=>intro w hw;omega
 | succ n ih =>
 intro w hw hww s H l i h hi hh
 obtain ⟨⟨kind,op,nt,⟨vk,vn,vt⟩,up,pos,kids,sub⟩,f⟩:=w
 dsimp only [PE.ov,PE.ob,PE.kind,PE.op,PE.nt,PE.value,PE.up,PE.pos,PE.kids,PE.sub,List.cons_append,List.nil_append] at hh
 rw [show PE.ov (PE.mk kind op nt ⟨vk,vn,vt⟩ up pos kids sub,f)=V.agg [.int .i64 kind,.int .i64 op,.bool nt,.int .i64 vk,.int .i64 vn,.str vt,.int .i64 up,.int .i64 pos,.slm (.is (f 0).1) (f 0).2 0 kids.length,.slm (.is (f 1).1) (f 1).2 0 sub.length] from rfl]
 have hlen:kids.length≤100000∧sub.length≤100000:=by
   have h1:=PE.wgt_eq (PE.mk kind op nt ⟨vk,vn,vt⟩ up pos kids sub)
   have h2:=wgt_len PE.toV kids
   have h3:=wgt_len PE.planV sub
   simp only [PE.kids,PE.sub,PE.value] at h1
   dsimp only at hww
   omega
 refine LCalls.body0 Try.func61 rfl (by kernel_rfl) ?_
 by_cases hk:0<kids.length
 · skip
   repeat' first |(refine kBox ?_ ;first |(refine LOps.boxH hh rfl rfl ?_ ;intro s n hh)) |(refine kAlloc ?_ ;refine LOps.allocH tT_ok hh rfl rfl ?_ ;intro s n hh) |(refine kStore ?_ ;first |(refine LOps.storeH tT_ok 1 hh rfl rfl rfl rfl rfl rfl rfl rfl rfl ?_ ;intro s hh) |(refine LOps.storeH tT_ok 2 hh rfl rfl rfl rfl rfl rfl rfl rfl rfl ?_ ;intro s hh) |(refine LOps.storeH tT_ok 3 hh rfl rfl rfl rfl rfl rfl rfl rfl rfl ?_ ;intro s hh)) |(refine kBsl ?_ ;first |(refine LOps.ans (AnsL.bslE tT_ok rfl rfl rfl rfl rfl rfl rfl rfl ?_) ?_ ;(focus ((repeat' first |(exact ElsH.of rfl));done)))) |(refine kApp ?_ ;first |(refine' LOps.appW tT_ok 4 rfl rfl rfl rfl rfl rfl rfl rfl rfl rfl hh ?_ ?_ ?_ (AppB.ofW ?_ rfl) ?_ ;rotate_left 2 ;(focus (first |(intro x hx;obtain ⟨y,_,rfl⟩:=List.mem_map.1 hx;first | rfl | exact PE.cells_len _ | exact PE.planV_len _))) ;(focus ((repeat' first |(exact ConsOL.nil) |(exact ConsO.scal rfl) |(exact ConsO.slm0) |(refine' ConsOL.cons ?_ ?_) |(refine' ConsO.agg ?_));done)) ;(focus ((repeat' first |(exact Elems.of rfl));done)) ;(focus (first | omega |(simp ;omega))) ;intro s c n hh)) |(refine kCallN 59 ?_ ;first |(refine LOps.drawH 0 rfl rfl ok59 hh rfl rfl ?_ (specl1Below_d hb (by omega)) ?_ ;(focus (first | assumption | omega)) ;intro s x i h hq hi hh ;try dsimp only)) |(refine kCallN 72 ?_ ;first |(refine LOps.drawH 4 rfl rfl ok72 hh rfl rfl ?_ (specl1Once_d hb (by omega)) ?_ ;(focus (first | assumption | omega)) ;intro s x i h hq hi hh ;try dsimp only)) |(refine kCallN 87 ?_ ;first |(refine LOps.drawH 0 rfl rfl ok87 hh rfl rfl ?_ (specl1Whole_d hb) ?_ ;(focus (first | assumption | omega)) ;intro s x i h hq hi hh ;try dsimp only)) |(refine kCallN 100 ?_ ;first |(refine LOps.drawH 0 rfl rfl ok100 hh rfl rfl ?_ (specl5Bent_d hb) ?_ ;(focus (first | assumption | omega)) ;intro s x i h hq hi hh ;try dsimp only)) |(refine kOps ?_;first |(refine LOps.nil ?_) |(refine kG ?_;first |(refine LOps.gT rfl rfl rfl ?_) |(refine LOps.gD true rfl rfl rfl ?_ ?_;(focus (first |(simp only [decide_eq_true_eq,decide_eq_false_iff_not,Bool.not_eq_true',Bool.not_eq_false',Int.ofNat_lt,Int.ofNat_le,Int.ofNat_inj,not_true_eq_false,not_false_eq_true];omega))))) |(refine' LOps.ans (v := .agg _) (AnsL.buildZ tT_ok rfl rfl rfl rfl ?_) ?_;rotate_left 1;(focus ((repeat' first |(exact Fills.nil));done))) |(refine LOps.ev tT_ok rfl ?_) |(refine kLoad ?_;first |(refine LOps.ans (AnsL.loadH tT_ok 1 hh rfl rfl rfl rfl) ?_) |(refine LOps.ans (AnsL.loadH tT_ok 2 hh rfl rfl rfl rfl) ?_) |(refine LOps.ans (AnsL.loadH tT_ok 3 hh rfl rfl rfl rfl) ?_))) |(refine kWL ?_;first |(refine WL.seq ?_) |(refine WL.region (by kernel_rfl) ?_) |(refine WL.block ?_) |(refine WL.skip ?_) |(refine WL.ret ?_) |(refine kCond ?_;first |(refine WL.cond rfl (fun h=>?_) (fun h=>?_)))) |(refine lthen_n ?_) |(refine lblock_n ?_) |(refine' LPost.r1 (r := .cell 4 29) (.inl rfl) ?_ ?_;rotate_left 1;(focus (first | exact Res1.cellH 0 tT_ok hh rfl rfl rfl rfl | exact Res1.cellH 1 tT_ok hh rfl rfl rfl rfl | exact Res1.cellH 2 tT_ok hh rfl rfl rfl rfl | exact Res1.cellH 3 tT_ok hh rfl rfl rfl rfl | exact Res1.cellH 4 tT_ok hh rfl rfl rfl rfl | exact Res1.cellH 5 tT_ok hh rfl rfl rfl rfl | exact Res1.cellH 6 tT_ok hh rfl rfl rfl rfl | exact Res1.cellH 7 tT_ok hh rfl rfl rfl rfl | exact Res1.cellHW 0 tT_ok hh rfl rfl rfl rfl | exact Res1.cellHW 1 tT_ok hh rfl rfl rfl rfl | exact Res1.cellHW 2 tT_ok hh rfl rfl rfl rfl | exact Res1.cellHW 3 tT_ok hh rfl rfl rfl rfl | exact Res1.cellHW 4 tT_ok hh rfl rfl rfl rfl | exact Res1.cellHW 5 tT_ok hh rfl rfl rfl rfl | exact Res1.cellHW 6 tT_ok hh rfl rfl rfl rfl | exact Res1.cellHW 7 tT_ok hh rfl rfl rfl rfl)))
   · obtain ⟨k,rfl⟩:=Int.eq_ofNat_of_zero_le hq.1
     have hkl:k<kids.length:=by omega
     have hsp:kids.map PE.toV=(kids.take k).map PE.toV++kids[k].toV::(kids.drop (k+1)).map PE.toV:=by
       rw [← List.map_cons, ← List.map_append,List.getElem_cons_drop,List.take_append_drop]
     have hsk:SizeOf.sizeOf kids[k]<SizeOf.sizeOf (PE.mk kind op nt ⟨vk,vn,vt⟩ up pos kids sub):=PE.kid_lt (List.getElem_mem hkl)
     have hwk:=wgt_mem (f:=PE.toV) (List.getElem_mem hkl)
     have hwe:=PE.wgt_eq (PE.mk kind op nt ⟨vk,vn,vt⟩ up pos kids sub)
     simp only [PE.kids,PE.sub,PE.value] at hwe
     rw [PE.toV_eq] at hwk
     have hcl:∀ x∈(kids.take k).map PE.toV++kids[k].toV::(kids.drop (k+1)).map PE.toV,x.cells.length=10:=by
       rw [← hsp]
       intro x hx
       obtain ⟨y,_,rfl⟩:=List.mem_map.1 hx
       exact PE.cells_len y
     rw [hsp] at hh
     obtain ⟨A,Z,u,rest,hA,hr,hnc,hn,hh⟩:=Hold.openO 10 (hh.sel (.cons 3 rfl rfl (Sel.refl _))) hcl
     obtain ⟨w2,rfl,hh⟩:=PE.unown (hh.sel (.cons 1 rfl rfl (Sel.refl _)))
     rw [List.length_map,List.length_take,Nat.min_eq_left (by omega)] at hA
     dsimp only [PE.ob,List.cons_append,List.nil_append] at hh
     have hB:=ih (kids[k],w2) (by dsimp only at hw ⊢;omega) (by dsimp only at hww ⊢;omega)
     repeat' first |(refine kStore ?_ ;first |(refine LOps.storeH tT_ok 6 hh rfl rfl rfl rfl rfl rfl rfl rfl rfl ?_ ;intro s hh)) |(refine kCallN 61 ?_ ;first |(refine' LOps.drawB 3 rfl rfl ok61 hh (hB) ?_ ?_ ?_ ?_ ?_ ;rotate_left 4 ;(focus ((repeat' first |(exact Takes.nil) |(apply Takes.p;(focus (((repeat' first |(exact Pick.here));done)))));done)) ;(focus rfl) ;(focus rfl) ;(focus (first | assumption | omega)) ;intro s y i h hq hi hh ;try dsimp only [List.cons_append,List.nil_append] at hh)) |(refine kStore ?_ ;first |(refine LOps.storeHE (q:=k*10) tT_ok 3 0 hh rfl rfl hA rfl rfl rfl rfl rfl rfl rfl rfl rfl ?_ ;intro s hh)) |(refine kOps ?_;first |(refine LOps.nil ?_) |(refine kLoad ?_;first |(refine LOps.ans (AnsL.loadH tT_ok 7 hh rfl rfl rfl rfl) ?_))) |(refine kWL ?_;first |(refine WL.seq ?_) |(refine WL.region (by kernel_rfl) ?_) |(refine WL.drawn (id:=3) [0,1,2,3,4,5,6,7,8,9,10,11] [9,11] [[],[0],[],[],[],[4],[],[4,5,6],[4,5,6,7],[3,4,5,6,7,8],[0,1,2,3,4,5,6,7,8,9],[0,1,2,3,4,5,6,7,8,9,10]] (by kernel_rfl) (by kernel_rfl) ?_) |(refine WL.ret ?_)) |(refine kDr ?_;first |(refine LDr.nil ?_) |(refine LDr.fl rfl rfl (.ev tT_ok rfl) ?_) |(refine kDLoad rfl ?_;first |(refine LDr.fl rfl rfl (AnsL.loadH tT_ok 7 hh rfl rfl rfl rfl) ?_) |(refine LDr.fl rfl rfl (AnsL.loadHE (q:=k*10) tT_ok 2 0 hh rfl rfl hA rfl rfl rfl rfl) ?_)) |(refine kDIdx rfl ?_;first |(refine LDr.fl rfl rfl (AnsL.idxO tT_ok rfl rfl rfl rfl rfl hkl) ?_)) |(refine LDr.eff rfl rfl rfl ?_)) |(refine lthen_n ?_) |(refine lthen_r ?_) |(refine' LPost.r1 (r := .cell 4 29) (.inl rfl) ?_ ?_;rotate_left 1;(focus (first | exact Res1.cellH 0 tT_ok hh rfl rfl rfl rfl | exact Res1.cellH 1 tT_ok hh rfl rfl rfl rfl | exact Res1.cellH 2 tT_ok hh rfl rfl rfl rfl | exact Res1.cellH 3 tT_ok hh rfl rfl rfl rfl | exact Res1.cellH 4 tT_ok hh rfl rfl rfl rfl | exact Res1.cellH 5 tT_ok hh rfl rfl rfl rfl | exact Res1.cellH 6 tT_ok hh rfl rfl rfl rfl | exact Res1.cellH 7 tT_ok hh rfl rfl rfl rfl | exact Res1.cellHW 0 tT_ok hh rfl rfl rfl rfl | exact Res1.cellHW 1 tT_ok hh rfl rfl rfl rfl | exact Res1.cellHW 2 tT_ok hh rfl rfl rfl rfl | exact Res1.cellHW 3 tT_ok hh rfl rfl rfl rfl | exact Res1.cellHW 4 tT_ok hh rfl rfl rfl rfl | exact Res1.cellHW 5 tT_ok hh rfl rfl rfl rfl | exact Res1.cellHW 6 tT_ok hh rfl rfl rfl rfl | exact Res1.cellHW 7 tT_ok hh rfl rfl rfl rfl))) |(refine And.intro ?_ ?_) |(exact StsL.nil) |(refine StsL.cons ?_ ?_) |(refine StL.fl rfl rfl (.ev tT_ok rfl)) |(refine StL.fl rfl rfl (AnsL.loadH tT_ok 7 hh rfl rfl rfl rfl))
     have h1:=PE.own (w:=y) hh
     have h2:=h1.sel (.cons 2 rfl rfl (.cons 0 rfl rfl (.cons 1 rfl rfl (.cons 1 rfl rfl (Sel.refl _)))))
     have hnl:(kids.take k).map PE.toV++y.1.toV::(kids.drop (k+1)).map PE.toV=(kids.set k y.1).map PE.toV:=by
       rw [List.set_eq_take_append_cons_drop,if_pos hkl,List.map_append,List.map_cons]
     have h3:=Hold.shutO 10 h2 rfl (by
       rw [hnl]
       intro x hx
       obtain ⟨y,_,rfl⟩:=List.mem_map.1 hx
       exact PE.cells_len y) hr hnc (by rw [hn];simp only [List.length_append,List.length_cons])
     rw [hnl] at h3
     replace hh:=h3
     rw [show kids.length=(kids.set k y.1).length by simp] at hh ⊢
     apply DrwB.fin (y:=(PE.mk _ _ _ ⟨_,_,_⟩ _ _ (kids.set k y.1) sub,f2 (f 0) (f 1))) (hh:=hh)
     case hv=>rfl
     case hi=>assumption
     case hs =>
       dsimp only [PE.ob,PE.kids,PE.sub,f2,List.cons_append,List.nil_append]
       (repeat' first |(exact Sel.nil) |(exact Sel.refl _) |(refine' Sel.p ?_ ?_;rotate_left 1;(focus (((repeat' first |(exact Pick.here) |(refine' Pick.there ?_));done)))))
       (repeat' first |(exact Sel.refl _) |(refine Sel.drop ?_))
     case hp =>
       dsimp only
       rw [PE.wgt_eq,PE.wgt_eq]
       simp only [PE.value,PE.kids,PE.sub]
       rw [← hnl,hsp,wgt_mid,wgt_mid,PE.toV_eq,PE.toV_eq]
       dsimp only at hq
       omega
   all_goals
     first
       | skip
         skip
         apply DrwB.fin (y:=(PE.mk _ _ _ ⟨_,_,_⟩ _ _ kids sub,f2 (f 0) (f 1))) (hh:=hh)
         case hv=>rfl
         case hi=>assumption
         case hs =>
           dsimp only [PE.ob,PE.kids,PE.sub,f2,List.cons_append,List.nil_append]
           (repeat' first |(exact Sel.nil) |(exact Sel.refl _) |(refine' Sel.p ?_ ?_;rotate_left 1;(focus (((repeat' first |(exact Pick.here) |(refine' Pick.there ?_));done)))))
           (repeat' first |(exact Sel.refl _) |(refine Sel.drop ?_))
         case hp =>
           dsimp only
           rw [PE.wgt_eq,PE.wgt_eq]
           simp only [PE.value,PE.kids,PE.sub]
           omega
       | skip
         rw [show sub.map PE.planV++[V.agg [.sl 0 [],.sl 0 [],.sl 0 [],.sl 0 [],.sl 0 [],.sl 0 [],.bool false,.int .i64 0]]=(sub++[(⟨[],[],[],[],[],[],false,0⟩:PL)]).map PE.planV by rw [List.map_append];rfl] at hh
         rw [show ∀ z:V,(sub.map PE.planV).length+[z].length=(sub++[(⟨[],[],[],[],[],[],false,0⟩:PL)]).length from fun _=>by simp] at hh ⊢
         apply DrwB.fin (y:=(PE.mk _ _ _ ⟨_,_,_⟩ _ _ kids (sub++[(⟨[],[],[],[],[],[],false,0⟩:PL)]),f2 (f 0) (_,_))) (hh:=hh)
         case hv=>rfl
         case hi=>assumption
         case hs =>
           dsimp only [PE.ob,PE.kids,PE.sub,f2,List.cons_append,List.nil_append]
           (repeat' first |(exact Sel.nil) |(exact Sel.refl _) |(refine' Sel.p ?_ ?_;rotate_left 1;(focus (((repeat' first |(exact Pick.here) |(refine' Pick.there ?_));done)))))
           (repeat' first |(exact Sel.refl _) |(refine Sel.drop ?_))
         case hp =>
           dsimp only
           rw [PE.wgt_eq,PE.wgt_eq]
           simp only [PE.value,PE.kids,PE.sub]
           rw [wgt_snoc,wgt_pl0]
           omega
 · skip
   repeat' first |(refine kBox ?_ ;first |(refine LOps.boxH hh rfl rfl ?_ ;intro s n hh)) |(refine kAlloc ?_ ;refine LOps.allocH tT_ok hh rfl rfl ?_ ;intro s n hh) |(refine kStore ?_ ;first |(refine LOps.storeH tT_ok 1 hh rfl rfl rfl rfl rfl rfl rfl rfl rfl ?_ ;intro s hh) |(refine LOps.storeH tT_ok 2 hh rfl rfl rfl rfl rfl rfl rfl rfl rfl ?_ ;intro s hh) |(refine LOps.storeH tT_ok 3 hh rfl rfl rfl rfl rfl rfl rfl rfl rfl ?_ ;intro s hh)) |(refine kBsl ?_ ;first |(refine LOps.ans (AnsL.bslE tT_ok rfl rfl rfl rfl rfl rfl rfl rfl ?_) ?_ ;(focus ((repeat' first |(exact ElsH.of rfl));done)))) |(refine kApp ?_ ;first |(refine' LOps.appW tT_ok 4 rfl rfl rfl rfl rfl rfl rfl rfl rfl rfl hh ?_ ?_ ?_ (AppB.ofW ?_ rfl) ?_ ;rotate_left 2 ;(focus (first |(intro x hx;obtain ⟨y,_,rfl⟩:=List.mem_map.1 hx;first | rfl | exact PE.cells_len _ | exact PE.planV_len _))) ;(focus ((repeat' first |(exact ConsOL.nil) |(exact ConsO.scal rfl) |(exact ConsO.slm0) |(refine' ConsOL.cons ?_ ?_) |(refine' ConsO.agg ?_));done)) ;(focus ((repeat' first |(exact Elems.of rfl));done)) ;(focus (first | omega |(simp ;omega))) ;intro s c n hh)) |(refine kCallN 59 ?_ ;first |(refine LOps.drawH 4 rfl rfl ok59 hh rfl rfl ?_ (specl1Below_d hb (by omega)) ?_ ;(focus (first | assumption | omega)) ;intro s x i h hq hi hh ;try dsimp only)) |(refine kCallN 87 ?_ ;first |(refine LOps.drawH 0 rfl rfl ok87 hh rfl rfl ?_ (specl1Whole_d hb) ?_ ;(focus (first | assumption | omega)) ;intro s x i h hq hi hh ;try dsimp only)) |(refine kCallN 100 ?_ ;first |(refine LOps.drawH 0 rfl rfl ok100 hh rfl rfl ?_ (specl5Bent_d hb) ?_ ;(focus (first | assumption | omega)) ;intro s x i h hq hi hh ;try dsimp only)) |(refine kOps ?_;first |(refine LOps.nil ?_) |(refine kG ?_;first |(refine LOps.gF rfl rfl rfl ?_) |(refine LOps.gD false rfl rfl rfl ?_ ?_;(focus (first |(simp only [decide_eq_true_eq,decide_eq_false_iff_not,Bool.not_eq_true',Bool.not_eq_false',Int.ofNat_lt,Int.ofNat_le,Int.ofNat_inj,not_true_eq_false,not_false_eq_true];omega))))) |(refine' LOps.ans (v := .agg _) (AnsL.buildZ tT_ok rfl rfl rfl rfl ?_) ?_;rotate_left 1;(focus ((repeat' first |(exact Fills.nil));done))) |(refine LOps.ev tT_ok rfl ?_) |(refine kLoad ?_;first |(refine LOps.ans (AnsL.loadH tT_ok 1 hh rfl rfl rfl rfl) ?_) |(refine LOps.ans (AnsL.loadH tT_ok 2 hh rfl rfl rfl rfl) ?_) |(refine LOps.ans (AnsL.loadH tT_ok 3 hh rfl rfl rfl rfl) ?_))) |(refine kWL ?_;first |(refine WL.seq ?_) |(refine WL.region (by kernel_rfl) ?_) |(refine WL.block ?_) |(refine WL.skip ?_) |(refine WL.ret ?_) |(refine kCond ?_;first |(refine WL.condF rfl ?_) |(refine WL.cond rfl (fun h=>?_) (fun h=>?_)))) |(refine lthen_n ?_) |(refine lblock_n ?_) |(refine' LPost.r1 (r := .cell 4 29) (.inl rfl) ?_ ?_;rotate_left 1;(focus (first | exact Res1.cellH 0 tT_ok hh rfl rfl rfl rfl | exact Res1.cellH 1 tT_ok hh rfl rfl rfl rfl | exact Res1.cellH 2 tT_ok hh rfl rfl rfl rfl | exact Res1.cellH 3 tT_ok hh rfl rfl rfl rfl | exact Res1.cellH 4 tT_ok hh rfl rfl rfl rfl | exact Res1.cellH 5 tT_ok hh rfl rfl rfl rfl | exact Res1.cellH 6 tT_ok hh rfl rfl rfl rfl | exact Res1.cellH 7 tT_ok hh rfl rfl rfl rfl | exact Res1.cellHW 0 tT_ok hh rfl rfl rfl rfl | exact Res1.cellHW 1 tT_ok hh rfl rfl rfl rfl | exact Res1.cellHW 2 tT_ok hh rfl rfl rfl rfl | exact Res1.cellHW 3 tT_ok hh rfl rfl rfl rfl | exact Res1.cellHW 4 tT_ok hh rfl rfl rfl rfl | exact Res1.cellHW 5 tT_ok hh rfl rfl rfl rfl | exact Res1.cellHW 6 tT_ok hh rfl rfl rfl rfl | exact Res1.cellHW 7 tT_ok hh rfl rfl rfl rfl)))
   all_goals
     first
       | skip
         skip
         apply DrwB.fin (y:=(PE.mk _ _ _ ⟨_,_,_⟩ _ _ kids sub,f2 (f 0) (f 1))) (hh:=hh)
         case hv=>rfl
         case hi=>assumption
         case hs =>
           dsimp only [PE.ob,PE.kids,PE.sub,f2,List.cons_append,List.nil_append]
           (repeat' first |(exact Sel.nil) |(exact Sel.refl _) |(refine' Sel.p ?_ ?_;rotate_left 1;(focus (((repeat' first |(exact Pick.here) |(refine' Pick.there ?_));done)))))
           (repeat' first |(exact Sel.refl _) |(refine Sel.drop ?_))
         case hp =>
           dsimp only
           rw [PE.wgt_eq,PE.wgt_eq]
           simp only [PE.value,PE.kids,PE.sub]
           omega
       | skip
         rw [show sub.map PE.planV++[V.agg [.sl 0 [],.sl 0 [],.sl 0 [],.sl 0 [],.sl 0 [],.sl 0 [],.bool false,.int .i64 0]]=(sub++[(⟨[],[],[],[],[],[],false,0⟩:PL)]).map PE.planV by rw [List.map_append];rfl] at hh
         rw [show ∀ z:V,(sub.map PE.planV).length+[z].length=(sub++[(⟨[],[],[],[],[],[],false,0⟩:PL)]).length from fun _=>by simp] at hh ⊢
         apply DrwB.fin (y:=(PE.mk _ _ _ ⟨_,_,_⟩ _ _ kids (sub++[(⟨[],[],[],[],[],[],false,0⟩:PL)]),f2 (f 0) (_,_))) (hh:=hh)
         case hv=>rfl
         case hi=>assumption
         case hs =>
           dsimp only [PE.ob,PE.kids,PE.sub,f2,List.cons_append,List.nil_append]
           (repeat' first |(exact Sel.nil) |(exact Sel.refl _) |(refine' Sel.p ?_ ?_;rotate_left 1;(focus (((repeat' first |(exact Pick.here) |(refine' Pick.there ?_));done)))))
           (repeat' first |(exact Sel.refl _) |(refine Sel.drop ?_))
         case hp =>
           dsimp only
           rw [PE.wgt_eq,PE.wgt_eq]
           simp only [PE.value,PE.kids,PE.sub]
           rw [wgt_snoc,wgt_pl0]
           omega
end Go.Proofs.Ytolhegocbkckdaa
