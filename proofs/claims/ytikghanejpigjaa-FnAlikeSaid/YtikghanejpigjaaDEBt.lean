/-
 Queries' trees bent: one of what is drawn is changed, in place. Printed by a program of our own; no condition.
-/
import Derived.Test.YtikghanejpigjaaMg25
import Derived.Test.YtikghanejpigjaaDEd3
namespace Go.Proofs.Ytikghanejpigjaa
open Go
set_option linter.unusedSimpArgs false
set_option linter.unusedVariables false
theorem wgt_eq0:wgt (EE.queryV (⟨false,[],[],[],[],0⟩:EQ))=0:=rfl
theorem EE.unown {s:S} {b:Nat} {H:List BE} {u:V} {x:EE} (h:Hold s b (.own u x.toV::H)):∃ w:Nat→Nat × Nat,u=EE.ov (x,w)∧Hold s b (EE.ob (x,w)++H):=by
 rw [EE.toV_eq] at h
 obtain ⟨vs,rfl,hl⟩:=h.aggOk
 match vs,hl with
 | [v0,v1,v2,v3,v4,v5,v6,v7,v8,v9],_ =>
   unfold EE.v at h
   obtain ⟨e0,g0⟩:=h.unscal rfl
   obtain ⟨e1,g1⟩:=g0.unscal rfl
   obtain ⟨e2,g2⟩:=g1.unscal rfl
   obtain ⟨e3,g3⟩:=g2.unscal rfl
   obtain ⟨e4,g4⟩:=g3.unscal rfl
   obtain ⟨e5,g5⟩:=g4.unscal rfl
   obtain ⟨e6,g6⟩:=g5.unscal rfl
   obtain ⟨e7,g7⟩:=g6.unscal rfl
   subst e0 e1 e2 e3 e4 e5 e6 e7
   have h8:=g7.unagg
   have h9:Hold s b (.own (.agg [v9]) (.agg [.sl 0 (x.sub.map EE.queryV)]) :: .own v8 (.sl 0 (x.kids.map EE.toV))::H):=h8.sel (.cons 1 rfl rfl (.cons 0 rfl rfl (Sel.refl H)))
   have h10:=h9.unagg
   have h11:Hold s b (.own v8 (.sl 0 (x.kids.map EE.toV)) :: .own v9 (.sl 0 (x.sub.map EE.queryV))::H):=h10.sel (.cons 2 rfl rfl (.cons 0 rfl rfl (Sel.drop (Sel.refl H))))
   have h12:Hold s b (.own v9 (.sl 0 (x.sub.map EE.queryV)) :: .own v8 (.sl 0 (x.kids.map EE.toV))::H):=h11.sel (.cons 1 rfl rfl (.cons 0 rfl rfl (Sel.refl H)))
   obtain ⟨c8,l8,e8,_⟩:=h11.slc
   obtain ⟨c9,l9,e9,_⟩:=h12.slc
   rw [List.length_map] at e8 e9
   subst e8 e9
   exact ⟨f2 (c8,l8) (c9,l9),rfl,h11⟩
theorem EE.own {s:S} {b:Nat} {H:List BE} {w:EE × (Nat→Nat × Nat)} (h:Hold s b (EE.ob w++H)):Hold s b (.own (EE.ov w) w.1.toV::H):=by
 rw [EE.toV_eq]
 exact h.pack (H':=H) (by unfold EE.v;((repeat' first |(exact ConsOL.nil) |(exact ConsO.scal rfl) |(exact ConsO.slm0) |(refine' ConsO.op ?_;((repeat' first |(exact Pick.here) |(refine' Pick.there ?_));done)) |(refine' ConsOL.cons ?_ ?_) |(refine' ConsO.agg ?_));done))
set_option maxHeartbeats 4000000 in
theorem specl7Bent_d {b:V} (hb:Bytes b):∀ (n:Nat) (w:EE × (Nat→Nat × Nat)),SizeOf.sizeOf w.1<n→wgt w.1.v≤100000→DrwB Try.prog 28 b [EE.ov w] (EE.ob w) EE.ov EE.ob (fun y=>wgt y.1.v≤wgt w.1.v+1000):=by
 intro n
 induction n with
 | zero=>intro w hw;omega
 | succ n ih =>
 intro w hw hww s H l i h hi hh
 obtain ⟨⟨kind,op,nt,⟨vk,vn,vt⟩,ql,nm,kids,sub⟩,f⟩:=w
 dsimp only [EE.ov,EE.ob,EE.kind,EE.op,EE.nt,EE.value,EE.qual,EE.name,EE.kids,EE.sub,List.cons_append,List.nil_append] at hh
 rw [show EE.ov (EE.mk kind op nt ⟨vk,vn,vt⟩ ql nm kids sub,f)=V.agg [.int .i64 kind,.int .i64 op,.bool nt,.int .i64 vk,.int .i64 vn,.str vt,.str ql,.str nm,.slm (.is (f 0).1) (f 0).2 0 kids.length,.slm (.is (f 1).1) (f 1).2 0 sub.length] from rfl]
 have hlen:kids.length≤100000∧sub.length≤100000:=by
   have h1:=EE.wgt_eq (EE.mk kind op nt ⟨vk,vn,vt⟩ ql nm kids sub)
   have h2:=wgt_len EE.toV kids
   have h3:=wgt_len EE.queryV sub
   simp only [EE.kids,EE.sub,EE.value,EE.qual,EE.name,Val.wt] at h1
   dsimp only at hww
   omega
 refine LCalls.body0 Try.func28 rfl (by kernel_rfl) ?_
 by_cases hk:0<kids.length
 · skip
   repeat' first |(refine kBox ?_ ;first |(refine LOps.boxH hh rfl rfl ?_ ;intro s n hh)) |(refine kAlloc ?_ ;refine LOps.allocH tT_ok hh rfl rfl ?_ ;intro s n hh) |(refine kStore ?_ ;first |(refine LOps.storeH tT_ok 1 hh rfl rfl rfl rfl rfl rfl rfl rfl rfl ?_ ;intro s hh) |(refine LOps.storeH tT_ok 2 hh rfl rfl rfl rfl rfl rfl rfl rfl rfl ?_ ;intro s hh) |(refine LOps.storeH tT_ok 3 hh rfl rfl rfl rfl rfl rfl rfl rfl rfl ?_ ;intro s hh)) |(refine kBsl ?_ ;first |(refine LOps.ans (d:=48) (AnsL.bslF tT_ok rfl rfl rfl rfl rfl rfl rfl rfl rfl) ?_) |(refine LOps.ans (AnsL.bslE tT_ok rfl rfl rfl rfl rfl rfl rfl rfl ?_) ?_ ;(focus ((repeat' first |(exact ElsH.of rfl));done)))) |(refine kApp ?_ ;first |(refine' LOps.appW tT_ok 4 rfl rfl rfl rfl rfl rfl rfl rfl rfl rfl hh ?_ ?_ ?_ (AppB.of ?_ rfl) ?_ ;rotate_left 2 ;(focus (first |(intro x hx;obtain ⟨y,_,rfl⟩:=List.mem_map.1 hx;first | rfl | exact PE.cells_len _ | exact PE.planV_len _ | exact EE.cells_len _ | exact EE.queryV_len _))) ;(focus ((repeat' first |(exact ConsOL.nil) |(exact ConsO.scal rfl) |(exact ConsO.slm0) |(refine' ConsOL.cons ?_ ?_) |(refine' ConsO.agg ?_));done)) ;(focus ((repeat' first |(exact Elems.of rfl));done)) ;(focus (first | omega |(simp ;omega))) ;intro s c n hh) |(refine' LOps.appW tT_ok 5 rfl rfl rfl rfl rfl rfl rfl rfl rfl rfl hh ?_ ?_ ?_ (AppB.ofW ?_ rfl) ?_ ;rotate_left 2 ;(focus (first |(intro x hx;obtain ⟨y,_,rfl⟩:=List.mem_map.1 hx;first | rfl | exact PE.cells_len _ | exact PE.planV_len _ | exact EE.cells_len _ | exact EE.queryV_len _))) ;(focus ((repeat' first |(exact ConsOL.nil) |(exact ConsO.scal rfl) |(refine' ConsO.op ?_;((repeat' first |(exact Pick.here) |(refine' Pick.there ?_));done)) |(refine' ConsOL.cons ?_ ?_) |(refine' ConsO.agg ?_));done)) ;(focus ((repeat' first |(exact Elems.of rfl));done)) ;(focus (first | omega |(simp ;omega))) ;intro s c n hh)) |(refine kCallN 26 ?_ ;first |(refine LOps.drawH 0 rfl rfl ok26 hh rfl rfl ?_ (specl1Below_d hb (by omega)) ?_ ;(focus (first | assumption | omega)) ;intro s x i h hq hi hh ;try dsimp only)) |(refine kCallN 39 ?_ ;first |(refine LOps.drawH 4 rfl rfl ok39 hh rfl rfl ?_ (specl1Once_d hb (by omega)) ?_ ;(focus (first | assumption | omega)) ;intro s x i h hq hi hh ;try dsimp only)) |(refine kCallN 53 ?_ ;first |(refine LOps.drawH 0 rfl rfl ok53 hh rfl rfl ?_ (specl5Bent_d hb) ?_ ;(focus (first | assumption | omega)) ;intro s x i h hq hi hh ;try dsimp only)) |(refine kCallN 54 ?_ ;first |(refine LOps.drawH 0 rfl rfl ok54 hh rfl rfl ?_ (specl2Any_d hb) ?_ ;(focus (first | assumption | omega)) ;intro s x i h hq hi hh ;try dsimp only)) |(refine kCallN 52 ?_ ;first |(refine LOps.drawH 0 rfl rfl ok52 hh rfl rfl ?_ (specl1PickInt_d hb rfl (by simp)) ?_ ;(focus (first | assumption | omega)) ;intro s x i h hq hi hh ;try dsimp only)) |(refine kCallN 45 ?_ ;first |(refine LOps.drawB 0 rfl rfl ok45 hh (specl7Col_d hb) .nil rfl rfl ?_ ?_ ;(focus (first | assumption | omega)) ;intro s y i h hq hi hh ;try dsimp only [List.cons_append,List.nil_append] at hh)) |(refine kOps ?_;first |(refine LOps.nil ?_) |(refine kG ?_;first |(refine LOps.gT rfl rfl rfl ?_) |(refine LOps.gD true rfl rfl rfl ?_ ?_;(focus (first |(simp only [decide_eq_true_eq, decide_eq_false_iff_not, Bool.not_eq_true', Bool.not_eq_false', Int.ofNat_lt, Int.ofNat_le, Int.ofNat_inj, not_true_eq_false, not_false_eq_true]; omega))))) |(refine' LOps.ans (v := .agg _) (AnsL.buildZ tT_ok rfl rfl rfl rfl ?_) ?_;rotate_left 1;(focus ((repeat' first |(exact Fills.nil));done))) |(refine LOps.ev tT_ok rfl ?_) |(refine kLoad ?_;first |(refine LOps.ans (AnsL.loadH tT_ok 1 hh rfl rfl rfl rfl) ?_) |(refine LOps.ans (AnsL.loadH tT_ok 2 hh rfl rfl rfl rfl) ?_) |(refine LOps.ans (AnsL.loadH tT_ok 3 hh rfl rfl rfl rfl) ?_)) |(refine kBin ?_;first |(refine LOps.ans (AnsL.sub rfl rfl ?_) ?_;(focus (constructor <;> omega))))) |(refine kWL ?_;first |(refine WL.seq ?_) |(refine WL.region (by kernel_rfl) ?_) |(refine WL.drawn (id:=20) [0,1,2,3,4,5,6,7] [3,5,7] [[],[0],[],[2],[2,3],[0,1,2,3,4],[0,1,2,3,4,5],[0,1,2,3,4,5,6]] (by kernel_rfl) (by kernel_rfl) ?_) |(refine WL.block ?_) |(refine WL.skip ?_) |(refine WL.ret ?_) |(refine kCond ?_;first |(refine WL.cond rfl (fun h=>?_) (fun h=>?_)))) |(refine kDr ?_;first |(refine LDr.nil ?_) |(refine LDr.fl rfl rfl (.ev tT_ok rfl) ?_) |(refine LDr.fl rfl rfl (AnsL.bslF tT_ok rfl rfl rfl rfl rfl rfl rfl rfl rfl) ?_) |(refine kDLoad rfl ?_;first |(refine LDr.fl rfl rfl (AnsL.loadH tT_ok 2 hh rfl rfl rfl rfl) ?_)) |(refine LDr.eff rfl rfl rfl ?_)) |(refine lthen_n ?_) |(refine lblock_n ?_) |(refine' LPost.r1 (r := .cell 4 37) (.inl rfl) ?_ ?_;rotate_left 1;(focus (first |(exact Res1.cellH 1 tT_ok hh rfl rfl rfl rfl) |(exact Res1.cellH 2 tT_ok hh rfl rfl rfl rfl)))) |(refine And.intro ?_ ?_) |(exact StsL.nil) |(refine StsL.cons ?_ ?_) |(refine StL.fl rfl rfl (.ev tT_ok rfl)) |(refine StL.fl rfl rfl (AnsL.loadH tT_ok 4 hh rfl rfl rfl rfl))
   · obtain ⟨k, rfl⟩ := Int.eq_ofNat_of_zero_le hq.1
     have hkl:k<kids.length:=by omega
     have hsp:kids.map EE.toV=(kids.take k).map EE.toV++kids[k].toV::(kids.drop (k+1)).map EE.toV:=by
       rw [← List.map_cons, ← List.map_append,List.getElem_cons_drop,List.take_append_drop]
     have hsk:SizeOf.sizeOf kids[k]<SizeOf.sizeOf (EE.mk kind op nt ⟨vk,vn,vt⟩ ql nm kids sub):=EE.kid_lt (List.getElem_mem hkl)
     have hwk:=wgt_mem (f:=EE.toV) (List.getElem_mem hkl)
     have hwe:=EE.wgt_eq (EE.mk kind op nt ⟨vk,vn,vt⟩ ql nm kids sub)
     simp only [EE.kids,EE.sub,EE.value,EE.qual,EE.name,Val.wt] at hwe
     rw [EE.toV_eq] at hwk
     have hcl:∀ x∈(kids.take k).map EE.toV++kids[k].toV::(kids.drop (k+1)).map EE.toV,x.cells.length=10:=by
       rw [← hsp]
       intro x hx
       obtain ⟨y,_,rfl⟩:=List.mem_map.1 hx
       exact EE.cells_len y
     rw [hsp] at hh
     obtain ⟨A,Z,u,rest,hA,hr,hnc,hn,hh⟩:=Hold.openO 10 (hh.sel (.cons 3 rfl rfl (Sel.refl _))) hcl
     obtain ⟨w2,rfl,hh⟩:=EE.unown (hh.sel (.cons 1 rfl rfl (Sel.refl _)))
     rw [List.length_map,List.length_take,Nat.min_eq_left (by omega)] at hA
     dsimp only [EE.ob,List.cons_append,List.nil_append] at hh
     have hB:=ih (kids[k],w2) (by dsimp only at hw ⊢;omega) (by dsimp only at hww ⊢;omega)
     repeat' first |(refine kStore ?_ ;first |(refine LOps.storeH tT_ok 6 hh rfl rfl rfl rfl rfl rfl rfl rfl rfl ?_ ;intro s hh)) |(refine kCallN 28 ?_ ;first |(refine' LOps.drawB 3 rfl rfl ok28 hh (hB) ?_ ?_ ?_ ?_ ?_ ;rotate_left 4 ;(focus ((repeat' first |(exact Takes.nil) |(apply Takes.p;(focus (((repeat' first |(exact Pick.here));done)))));done)) ;(focus rfl) ;(focus rfl) ;(focus (first | assumption | omega)) ;intro s y i h hq hi hh ;try dsimp only [List.cons_append,List.nil_append] at hh)) |(refine kStore ?_ ;first |(refine LOps.storeHE (q:=k*10) tT_ok 3 0 hh rfl rfl hA rfl rfl rfl rfl rfl rfl rfl rfl rfl ?_ ;intro s hh)) |(refine kOps ?_;first |(refine LOps.nil ?_) |(refine kLoad ?_;first |(refine LOps.ans (AnsL.loadH tT_ok 7 hh rfl rfl rfl rfl) ?_))) |(refine kWL ?_;first |(refine WL.seq ?_) |(refine WL.region (by kernel_rfl) ?_) |(refine WL.drawn (id:=3) [0,1,2,3,4,5,6,7,8,9,10,11] [9,11] [[],[0],[],[],[],[4],[],[4,5,6],[4,5,6,7],[3,4,5,6,7,8],[0,1,2,3,4,5,6,7,8,9],[0,1,2,3,4,5,6,7,8,9,10]] (by kernel_rfl) (by kernel_rfl) ?_) |(refine WL.ret ?_)) |(refine kDr ?_;first |(refine LDr.nil ?_) |(refine LDr.fl rfl rfl (.ev tT_ok rfl) ?_) |(refine kDLoad rfl ?_;first |(refine LDr.fl rfl rfl (AnsL.loadH tT_ok 7 hh rfl rfl rfl rfl) ?_) |(refine LDr.fl rfl rfl (AnsL.loadHE (q:=k*10) tT_ok 2 0 hh rfl rfl hA rfl rfl rfl rfl) ?_)) |(refine kDIdx rfl ?_;first |(refine LDr.fl rfl rfl (AnsL.idxO tT_ok rfl rfl rfl rfl rfl hkl) ?_)) |(refine LDr.eff rfl rfl rfl ?_)) |(refine lthen_n ?_) |(refine lthen_r ?_) |(refine' LPost.r1 (r := .cell 4 37) (.inl rfl) ?_ ?_;rotate_left 1;(focus (first |(exact Res1.cellH 6 tT_ok hh rfl rfl rfl rfl)))) |(refine And.intro ?_ ?_) |(exact StsL.nil) |(refine StsL.cons ?_ ?_) |(refine StL.fl rfl rfl (.ev tT_ok rfl)) |(refine StL.fl rfl rfl (AnsL.loadH tT_ok 7 hh rfl rfl rfl rfl))
     have h1:=EE.own (w:=y) hh
     have h2:=h1.sel (.cons 2 rfl rfl (.cons 0 rfl rfl (.cons 1 rfl rfl (.cons 1 rfl rfl (Sel.refl _)))))
     have hnl:(kids.take k).map EE.toV++y.1.toV::(kids.drop (k+1)).map EE.toV=(kids.set k y.1).map EE.toV:=by
       rw [List.set_eq_take_append_cons_drop,if_pos hkl,List.map_append,List.map_cons]
     have h3:=Hold.shutO 10 h2 rfl (by
       rw [hnl]
       intro x hx
       obtain ⟨y,_,rfl⟩:=List.mem_map.1 hx
       exact EE.cells_len y) hr hnc (by rw [hn];simp only [List.length_append,List.length_cons])
     rw [hnl] at h3
     replace hh:=h3
     rw [show kids.length=(kids.set k y.1).length by simp] at hh ⊢
     apply DrwB.fin (y:=(EE.mk _ _ _ ⟨_,_,_⟩ _ _ (kids.set k y.1) sub,f2 (f 0) (f 1))) (hh:=hh)
     case hv=>rfl
     case hi=>assumption
     case hs =>
       dsimp only [EE.ob,EE.kids,EE.sub,f2,List.cons_append,List.nil_append]
       (repeat' first |(exact Sel.nil) |(exact Sel.refl _) |(refine' Sel.p ?_ ?_;rotate_left 1;(focus (((repeat' first |(exact Pick.here) |(refine' Pick.there ?_));done)))))
       (repeat' first |(exact Sel.refl _) |(refine Sel.drop ?_))
     case hp =>
       dsimp only
       rw [EE.wgt_eq,EE.wgt_eq]
       simp only [EE.value,EE.qual,EE.name,EE.kids,EE.sub,Val.wt]
       rw [← hnl,hsp,wgt_mid,wgt_mid,EE.toV_eq,EE.toV_eq]
       dsimp only at hq
       omega
   all_goals
     first
       | skip
         skip
         apply DrwB.fin (y:=(EE.mk _ _ _ ⟨_,_,_⟩ _ _ kids sub,f2 (f 0) (f 1))) (hh:=hh)
         case hv=>rfl
         case hi=>assumption
         case hs =>
           dsimp only [EE.ob,EE.kids,EE.sub,f2,List.cons_append,List.nil_append]
           (repeat' first |(exact Sel.nil) |(exact Sel.refl _) |(refine' Sel.p ?_ ?_;rotate_left 1;(focus (((repeat' first |(exact Pick.here) |(refine' Pick.there ?_));done)))))
           (repeat' first |(exact Sel.refl _) |(refine Sel.drop ?_))
         case hp =>
           dsimp only
           rw [EE.wgt_eq,EE.wgt_eq]
           simp only [EE.value,EE.qual,EE.name,EE.kids,EE.sub,Val.wt]
           omega
       | skip
         rw [EE.snoc,show ∀ z:V,(kids.map EE.toV).length+[z].length=(kids++[y.1]).length from fun _=>by simp] at hh
         rw [show ∀ z:V,(kids.map EE.toV).length+[z].length=(kids++[y.1]).length from fun _=>by simp]
         apply DrwB.fin (y:=(EE.mk _ _ _ ⟨_,_,_⟩ _ _ (kids++[y.1]) sub,f2 (_,_) (f 1))) (hh:=hh)
         case hv=>rfl
         case hi=>assumption
         case hs =>
           dsimp only [EE.ob,EE.kids,EE.sub,f2,List.cons_append,List.nil_append]
           (repeat' first |(exact Sel.nil) |(exact Sel.refl _) |(refine' Sel.p ?_ ?_;rotate_left 1;(focus (((repeat' first |(exact Pick.here) |(refine' Pick.there ?_));done)))))
           (repeat' first |(exact Sel.refl _) |(refine Sel.drop ?_))
         case hp =>
           have hy:=hq.1
           dsimp only
           rw [EE.wgt_eq,EE.wgt_eq]
           simp only [EE.value,EE.qual,EE.name,EE.kids,EE.sub,Val.wt]
           rw [wgt_snoc,EE.toV_eq]
           omega
       | skip
         rw [show sub.map EE.queryV++[V.agg [.bool false,.sl 0 [],.sl 0 [],.sl 0 [],.sl 0 [],.int .i64 0]]=(sub++[(⟨false,[],[],[],[],0⟩:EQ)]).map EE.queryV by rw [List.map_append];rfl] at hh
         rw [show ∀ z:V,(sub.map EE.queryV).length+[z].length=(sub++[(⟨false,[],[],[],[],0⟩:EQ)]).length from fun _=>by simp] at hh ⊢
         apply DrwB.fin (y:=(EE.mk _ _ _ ⟨_,_,_⟩ _ _ kids (sub++[(⟨false,[],[],[],[],0⟩:EQ)]),f2 (f 0) (_,_))) (hh:=hh)
         case hv=>rfl
         case hi=>assumption
         case hs =>
           dsimp only [EE.ob,EE.kids,EE.sub,f2,List.cons_append,List.nil_append]
           (repeat' first |(exact Sel.nil) |(exact Sel.refl _) |(refine' Sel.p ?_ ?_;rotate_left 1;(focus (((repeat' first |(exact Pick.here) |(refine' Pick.there ?_));done)))))
           (repeat' first |(exact Sel.refl _) |(refine Sel.drop ?_))
         case hp =>
           dsimp only
           rw [EE.wgt_eq,EE.wgt_eq]
           simp only [EE.value,EE.qual,EE.name,EE.kids,EE.sub,Val.wt]
           rw [wgt_snoc,wgt_eq0]
           omega
 · skip
   repeat' first |(refine kBox ?_ ;first |(refine LOps.boxH hh rfl rfl ?_ ;intro s n hh)) |(refine kAlloc ?_ ;refine LOps.allocH tT_ok hh rfl rfl ?_ ;intro s n hh) |(refine kStore ?_ ;first |(refine LOps.storeH tT_ok 1 hh rfl rfl rfl rfl rfl rfl rfl rfl rfl ?_ ;intro s hh) |(refine LOps.storeH tT_ok 2 hh rfl rfl rfl rfl rfl rfl rfl rfl rfl ?_ ;intro s hh) |(refine LOps.storeH tT_ok 3 hh rfl rfl rfl rfl rfl rfl rfl rfl rfl ?_ ;intro s hh)) |(refine kBsl ?_ ;first |(refine LOps.ans (d:=48) (AnsL.bslF tT_ok rfl rfl rfl rfl rfl rfl rfl rfl rfl) ?_) |(refine LOps.ans (AnsL.bslE tT_ok rfl rfl rfl rfl rfl rfl rfl rfl ?_) ?_ ;(focus ((repeat' first |(exact ElsH.of rfl));done)))) |(refine kApp ?_ ;first |(refine' LOps.appW tT_ok 4 rfl rfl rfl rfl rfl rfl rfl rfl rfl rfl hh ?_ ?_ ?_ (AppB.of ?_ rfl) ?_ ;rotate_left 2 ;(focus (first |(intro x hx;obtain ⟨y,_,rfl⟩:=List.mem_map.1 hx;first | rfl | exact PE.cells_len _ | exact PE.planV_len _ | exact EE.cells_len _ | exact EE.queryV_len _))) ;(focus ((repeat' first |(exact ConsOL.nil) |(exact ConsO.scal rfl) |(exact ConsO.slm0) |(refine' ConsOL.cons ?_ ?_) |(refine' ConsO.agg ?_));done)) ;(focus ((repeat' first |(exact Elems.of rfl));done)) ;(focus (first | omega |(simp ;omega))) ;intro s c n hh) |(refine' LOps.appW tT_ok 5 rfl rfl rfl rfl rfl rfl rfl rfl rfl rfl hh ?_ ?_ ?_ (AppB.ofW ?_ rfl) ?_ ;rotate_left 2 ;(focus (first |(intro x hx;obtain ⟨y,_,rfl⟩:=List.mem_map.1 hx;first | rfl | exact PE.cells_len _ | exact PE.planV_len _ | exact EE.cells_len _ | exact EE.queryV_len _))) ;(focus ((repeat' first |(exact ConsOL.nil) |(exact ConsO.scal rfl) |(refine' ConsO.op ?_;((repeat' first |(exact Pick.here) |(refine' Pick.there ?_));done)) |(refine' ConsOL.cons ?_ ?_) |(refine' ConsO.agg ?_));done)) ;(focus ((repeat' first |(exact Elems.of rfl));done)) ;(focus (first | omega |(simp ;omega))) ;intro s c n hh)) |(refine kCallN 26 ?_ ;first |(refine LOps.drawH 0 rfl rfl ok26 hh rfl rfl ?_ (specl1Below_d hb (by omega)) ?_ ;(focus (first | assumption | omega)) ;intro s x i h hq hi hh ;try dsimp only) |(refine LOps.drawH 4 rfl rfl ok26 hh rfl rfl ?_ (specl1Below_d hb (by omega)) ?_ ;(focus (first | assumption | omega)) ;intro s x i h hq hi hh ;try dsimp only)) |(refine kCallN 53 ?_ ;first |(refine LOps.drawH 0 rfl rfl ok53 hh rfl rfl ?_ (specl5Bent_d hb) ?_ ;(focus (first | assumption | omega)) ;intro s x i h hq hi hh ;try dsimp only)) |(refine kCallN 54 ?_ ;first |(refine LOps.drawH 0 rfl rfl ok54 hh rfl rfl ?_ (specl2Any_d hb) ?_ ;(focus (first | assumption | omega)) ;intro s x i h hq hi hh ;try dsimp only)) |(refine kCallN 52 ?_ ;first |(refine LOps.drawH 0 rfl rfl ok52 hh rfl rfl ?_ (specl1PickInt_d hb rfl (by simp)) ?_ ;(focus (first | assumption | omega)) ;intro s x i h hq hi hh ;try dsimp only)) |(refine kCallN 45 ?_ ;first |(refine LOps.drawB 0 rfl rfl ok45 hh (specl7Col_d hb) .nil rfl rfl ?_ ?_ ;(focus (first | assumption | omega)) ;intro s y i h hq hi hh ;try dsimp only [List.cons_append,List.nil_append] at hh)) |(refine kOps ?_;first |(refine LOps.nil ?_) |(refine kG ?_;first |(refine LOps.gF rfl rfl rfl ?_) |(refine LOps.gD false rfl rfl rfl ?_ ?_;(focus (first |(simp only [decide_eq_true_eq, decide_eq_false_iff_not, Bool.not_eq_true', Bool.not_eq_false', Int.ofNat_lt, Int.ofNat_le, Int.ofNat_inj, not_true_eq_false, not_false_eq_true]; omega))))) |(refine' LOps.ans (v := .agg _) (AnsL.buildZ tT_ok rfl rfl rfl rfl ?_) ?_;rotate_left 1;(focus ((repeat' first |(exact Fills.nil));done))) |(refine LOps.ev tT_ok rfl ?_) |(refine kLoad ?_;first |(refine LOps.ans (AnsL.loadH tT_ok 1 hh rfl rfl rfl rfl) ?_) |(refine LOps.ans (AnsL.loadH tT_ok 2 hh rfl rfl rfl rfl) ?_) |(refine LOps.ans (AnsL.loadH tT_ok 3 hh rfl rfl rfl rfl) ?_)) |(refine kBin ?_;first |(refine LOps.ans (AnsL.sub rfl rfl ?_) ?_;(focus (constructor <;> omega))))) |(refine kWL ?_;first |(refine WL.seq ?_) |(refine WL.region (by kernel_rfl) ?_) |(refine WL.drawn (id:=20) [0,1,2,3,4,5,6,7] [3,5,7] [[],[0],[],[2],[2,3],[0,1,2,3,4],[0,1,2,3,4,5],[0,1,2,3,4,5,6]] (by kernel_rfl) (by kernel_rfl) ?_) |(refine WL.block ?_) |(refine WL.skip ?_) |(refine WL.ret ?_) |(refine kCond ?_;first |(refine WL.condF rfl ?_) |(refine WL.cond rfl (fun h=>?_) (fun h=>?_)))) |(refine kDr ?_;first |(refine LDr.nil ?_) |(refine LDr.fl rfl rfl (.ev tT_ok rfl) ?_) |(refine LDr.fl rfl rfl (AnsL.bslF tT_ok rfl rfl rfl rfl rfl rfl rfl rfl rfl) ?_) |(refine kDLoad rfl ?_;first |(refine LDr.fl rfl rfl (AnsL.loadH tT_ok 2 hh rfl rfl rfl rfl) ?_)) |(refine LDr.eff rfl rfl rfl ?_)) |(refine lthen_n ?_) |(refine lblock_n ?_) |(refine' LPost.r1 (r := .cell 4 37) (.inl rfl) ?_ ?_;rotate_left 1;(focus (first |(exact Res1.cellH 1 tT_ok hh rfl rfl rfl rfl) |(exact Res1.cellH 2 tT_ok hh rfl rfl rfl rfl)))) |(refine And.intro ?_ ?_) |(exact StsL.nil) |(refine StsL.cons ?_ ?_) |(refine StL.fl rfl rfl (.ev tT_ok rfl)) |(refine StL.fl rfl rfl (AnsL.loadH tT_ok 4 hh rfl rfl rfl rfl))
   all_goals
     first
       | skip
         skip
         apply DrwB.fin (y:=(EE.mk _ _ _ ⟨_,_,_⟩ _ _ kids sub,f2 (f 0) (f 1))) (hh:=hh)
         case hv=>rfl
         case hi=>assumption
         case hs =>
           dsimp only [EE.ob,EE.kids,EE.sub,f2,List.cons_append,List.nil_append]
           (repeat' first |(exact Sel.nil) |(exact Sel.refl _) |(refine' Sel.p ?_ ?_;rotate_left 1;(focus (((repeat' first |(exact Pick.here) |(refine' Pick.there ?_));done)))))
           (repeat' first |(exact Sel.refl _) |(refine Sel.drop ?_))
         case hp =>
           dsimp only
           rw [EE.wgt_eq,EE.wgt_eq]
           simp only [EE.value,EE.qual,EE.name,EE.kids,EE.sub,Val.wt]
           omega
       | skip
         rw [EE.snoc,show ∀ z:V,(kids.map EE.toV).length+[z].length=(kids++[y.1]).length from fun _=>by simp] at hh
         rw [show ∀ z:V,(kids.map EE.toV).length+[z].length=(kids++[y.1]).length from fun _=>by simp]
         apply DrwB.fin (y:=(EE.mk _ _ _ ⟨_,_,_⟩ _ _ (kids++[y.1]) sub,f2 (_,_) (f 1))) (hh:=hh)
         case hv=>rfl
         case hi=>assumption
         case hs =>
           dsimp only [EE.ob,EE.kids,EE.sub,f2,List.cons_append,List.nil_append]
           (repeat' first |(exact Sel.nil) |(exact Sel.refl _) |(refine' Sel.p ?_ ?_;rotate_left 1;(focus (((repeat' first |(exact Pick.here) |(refine' Pick.there ?_));done)))))
           (repeat' first |(exact Sel.refl _) |(refine Sel.drop ?_))
         case hp =>
           have hy:=hq.1
           dsimp only
           rw [EE.wgt_eq,EE.wgt_eq]
           simp only [EE.value,EE.qual,EE.name,EE.kids,EE.sub,Val.wt]
           rw [wgt_snoc,EE.toV_eq]
           omega
       | skip
         rw [show sub.map EE.queryV++[V.agg [.bool false,.sl 0 [],.sl 0 [],.sl 0 [],.sl 0 [],.int .i64 0]]=(sub++[(⟨false,[],[],[],[],0⟩:EQ)]).map EE.queryV by rw [List.map_append];rfl] at hh
         rw [show ∀ z:V,(sub.map EE.queryV).length+[z].length=(sub++[(⟨false,[],[],[],[],0⟩:EQ)]).length from fun _=>by simp] at hh ⊢
         apply DrwB.fin (y:=(EE.mk _ _ _ ⟨_,_,_⟩ _ _ kids (sub++[(⟨false,[],[],[],[],0⟩:EQ)]),f2 (f 0) (_,_))) (hh:=hh)
         case hv=>rfl
         case hi=>assumption
         case hs =>
           dsimp only [EE.ob,EE.kids,EE.sub,f2,List.cons_append,List.nil_append]
           (repeat' first |(exact Sel.nil) |(exact Sel.refl _) |(refine' Sel.p ?_ ?_;rotate_left 1;(focus (((repeat' first |(exact Pick.here) |(refine' Pick.there ?_));done)))))
           (repeat' first |(exact Sel.refl _) |(refine Sel.drop ?_))
         case hp =>
           dsimp only
           rw [EE.wgt_eq,EE.wgt_eq]
           simp only [EE.value,EE.qual,EE.name,EE.kids,EE.sub,Val.wt]
           rw [wgt_snoc,wgt_eq0]
           omega
end Go.Proofs.Ytikghanejpigjaa
