/-
 Queries' trees drawn, whole: by induction on the depth. Own work; no condition.
-/
import Derived.Test.YtikghanejpigjaaDEd2
import Derived.Test.YtikghanejpigjaaDPd4
namespace Go.Proofs.Ytikghanejpigjaa
open Go
set_option linter.unusedSimpArgs false
set_option linter.unusedVariables false
theorem kidsE_wgt {es:List EE} {w:Nat} (h:∀ e∈es,Rt w e):wgt (.sl 0 (es.map EE.toV))≤es.length*(w+1):=wgt_sl_le es fun e he=>by rw [EE.toV_eq];exact (h e he).1
theorem wgt_oneQ (q:EQ):wgt (.sl 0 ([q].map EE.queryV))=1+wgt q.v:=by simp only [List.map_cons,List.map_nil,EE.queryV_eq,wgt,wgtL,List.length_cons,List.length_nil];omega
theorem EE.one_q (q:EQ):[EE.queryV q]=[q].map EE.queryV:=rfl
set_option maxHeartbeats 4000000 in
theorem specl7Expr_d {b:V} (hb:Bytes b):∀ (n:Nat) (deep:Int),0≤deep→deep≤n→n≤60→EE.D Try.prog 25 b [.int .i64 deep] (Rt (wE n)):=by
 intro n
 induction n using Nat.strongRecOn with
 | ind n ih =>
 intro deep hd0 hdn hn60
 have hk:∀ (k:Nat),n=k+1→1≤deep→∀ m:Int,0≤m∧m≤5→EE.KD Try.prog 47 b [.int .i64 deep,.int .i64 m] (fun es=>es.length=m.toNat∧∀ e∈es,Rt (wE k) e):=fun k hk hd m hm =>
   specl7Kids_d (ih k (by omega) (deep - 1) (by omega) (by omega) (by omega)) (by omega) hm
 have hp:∀ (k:Nat),n=k+2→2≤deep→EQ.D Try.prog 48 b [.int .i64 (deep - 2)] (fun p=>wgt p.v≤64+6*wE k∧ShQ p):=fun k hk hd =>
   specl7Query_d hb (ih k (by omega) (deep - 2) (by omega) (by omega) (by omega)) (by omega)
 have hcol:=specl7Col_d hb
 intro s H l i h hi hh
 replace hh:Hold s s.next (.cell l (curC b i h)::H):=hh
 have h8:=wE_le n
 refine LCalls.body0 Try.func25 rfl (by kernel_rfl) ?_
 by_cases hz:deep≤0
 · skip
   repeat' first |(refine kAlloc ?_ ;refine LOps.allocH tT_ok hh rfl rfl ?_ ;intro s n hh) |(refine kStore ?_ ;first |(refine LOps.storeH tT_ok 1 hh rfl rfl rfl rfl rfl rfl rfl rfl rfl ?_ ;intro s hh) |(refine LOps.storeH tT_ok 3 hh rfl rfl rfl rfl rfl rfl rfl rfl rfl ?_ ;intro s hh)) |(refine kCallN 39 ?_ ;first |(refine LOps.drawH 1 rfl rfl ok39 hh rfl rfl ?_ (specl1Once_d hb (by omega)) ?_ ;(focus (first | assumption | omega)) ;intro s x i h hq hi hh ;try dsimp only)) |(refine kCallN 46 ?_ ;first |(refine LOps.drawH 0 rfl rfl ok46 hh rfl rfl ?_ (specl7Value_d hb) ?_ ;(focus (first | assumption | omega)) ;intro s x i h hq hi hh ;try dsimp only)) |(refine kCallN 45 ?_ ;first |(refine LOps.drawB 0 rfl rfl ok45 hh (hcol) .nil rfl rfl ?_ ?_ ;(focus (first | assumption | omega)) ;intro s y i h hq hi hh ;try dsimp only [List.cons_append,List.nil_append] at hh)) |(refine kOps ?_;first |(refine LOps.nil ?_) |(refine kG ?_;first |(refine LOps.gF rfl rfl rfl ?_) |(refine LOps.gD true rfl rfl rfl ?_ ?_;(focus (first |(exact decide_eq_true (by assumption)))))) |(refine' LOps.ans (v := .agg _) (AnsL.buildZ tT_ok rfl rfl rfl rfl ?_) ?_;rotate_left 1;(focus ((repeat' first |(exact Fills.nil) |(refine' Fills.cons rfl rfl rfl rfl ?_));done))) |(refine LOps.ev tT_ok rfl ?_)) |(refine kWL ?_;first |(refine WL.seq ?_) |(refine WL.region (by kernel_rfl) ?_) |(refine WL.skip ?_) |(refine WL.ret ?_) |(refine kCond ?_;first |(refine WL.condT rfl ?_) |(refine WL.cond rfl (fun h=>?_) (fun h=>?_)))) |(refine lthen_n ?_) |(refine lthen_r ?_) |(refine' LPost.r1 (r := .cell 4 37) (.inl rfl) ?_ ?_;rotate_left 1;(focus (first |(exact Res1.cellH 1 tT_ok hh rfl rfl rfl rfl) |(exact Res1.cellH 3 tT_ok hh rfl rfl rfl rfl))))
   all_goals first
     | skip
       replace hh:=hh.nil0.nil0
       apply DrwB.fin (y:=(EE.mk 1 _ _ ⟨_,_,_⟩ _ _ [] [],fun _=>(0,0))) (hh:=hh)
       case hv=>rfl
       case hi=>assumption
       case hs =>
         dsimp only [EE.ob,List.cons_append,List.nil_append]
         (repeat' first |(exact Sel.nil) |(exact Sel.refl _) |(refine' Sel.p ?_ ?_;rotate_left 1;(focus (((repeat' first |(exact Pick.here) |(refine' Pick.there ?_));done)))))
         (repeat' first |(exact Sel.refl _) |(refine Sel.drop ?_))
       case hp =>
         refine ⟨?_,.mk (by simp [shp,EE.kind]) (fun k hk=>by cases hk) (fun q hq=>by cases hq)⟩
         dsimp only
         rw [EE.wgt_eq]
         simp only [EE.value,EE.qual,EE.name,EE.kids,EE.sub,Val.wt,wgt_nilQ,wgt_nilEE,List.length_nil]
         have hq2:x.text.length≤4:=hq
         omega
     | skip
       replace hh:=hh
       apply DrwB.fin (y:=y) (hh:=hh)
       case hv=>rfl
       case hi=>assumption
       case hs =>
         dsimp only [EE.ob,List.cons_append,List.nil_append]
         (repeat' first |(exact Sel.nil) |(exact Sel.refl _) |(refine' Sel.p ?_ ?_;rotate_left 1;(focus (((repeat' first |(exact Pick.here) |(refine' Pick.there ?_));done)))))
         (repeat' first |(exact Sel.refl _) |(refine Sel.drop ?_))
       case hp=>exact ⟨Nat.le_trans hq.1 h8,hq.2⟩
 obtain ⟨k,rfl⟩:∃ k,n=k+1:=⟨n - 1,by omega⟩
 replace hk:=hk k rfl (by omega)
 by_cases ho:deep≤1
 · skip
   repeat' first |(refine kAlloc ?_ ;refine LOps.allocH tT_ok hh rfl rfl ?_ ;intro s n hh) |(refine kStore ?_ ;first |(refine LOps.storeH tT_ok 1 hh rfl rfl rfl rfl rfl rfl rfl rfl rfl ?_ ;intro s hh) |(refine LOps.storeH tT_ok 2 hh rfl rfl rfl rfl rfl rfl rfl rfl rfl ?_ ;intro s hh) |(refine LOps.storeH tT_ok 3 hh rfl rfl rfl rfl rfl rfl rfl rfl rfl ?_ ;intro s hh)) |(refine kCallN 26 ?_ ;first |(refine LOps.drawH 0 rfl rfl ok26 hh rfl rfl ?_ (specl1Below_d hb (by omega)) ?_ ;(focus (first | assumption | omega)) ;intro s x i h hq hi hh ;try dsimp only)) |(refine kCallN 39 ?_ ;first |(refine LOps.drawH 0 rfl rfl ok39 hh rfl rfl ?_ (specl1Once_d hb (by omega)) ?_ ;(focus (first | assumption | omega)) ;intro s x i h hq hi hh ;try dsimp only) |(refine LOps.drawH 1 rfl rfl ok39 hh rfl rfl ?_ (specl1Once_d hb (by omega)) ?_ ;(focus (first | assumption | omega)) ;intro s x i h hq hi hh ;try dsimp only)) |(refine kCallN 46 ?_ ;first |(refine LOps.drawH 0 rfl rfl ok46 hh rfl rfl ?_ (specl7Value_d hb) ?_ ;(focus (first | assumption | omega)) ;intro s x i h hq hi hh ;try dsimp only)) |(refine kCallN 45 ?_ ;first |(refine LOps.drawB 0 rfl rfl ok45 hh (hcol) .nil rfl rfl ?_ ?_ ;(focus (first | assumption | omega)) ;intro s y i h hq hi hh ;try dsimp only [List.cons_append,List.nil_append] at hh)) |(refine kCallN 47 ?_ ;first |(refine LOps.drawB 0 rfl rfl ok47 hh (hk _ (by omega)) .nil rfl rfl ?_ ?_ ;(focus (first | assumption | omega)) ;intro s y i h hq hi hh ;try dsimp only [List.cons_append,List.nil_append] at hh)) |(refine kOps ?_;first |(refine LOps.nil ?_) |(refine kG ?_;first |(refine LOps.gT rfl rfl rfl ?_) |(refine LOps.gD false rfl rfl rfl ?_ ?_;(focus (first |(exact decide_eq_false (by assumption)))))) |(refine' LOps.ans (v := .agg _) (AnsL.buildZ tT_ok rfl rfl rfl rfl ?_) ?_;rotate_left 1;(focus ((repeat' first |(exact Fills.nil) |(refine' Fills.cons rfl rfl rfl rfl ?_));done))) |(refine LOps.ev tT_ok rfl ?_) |(refine kBin ?_;first |(refine LOps.ans (AnsL.add rfl rfl ?_) ?_;(focus (constructor <;> omega))))) |(refine kWL ?_;first |(refine WL.seq ?_) |(refine WL.region (by kernel_rfl) ?_) |(refine WL.block ?_) |(refine WL.skip ?_) |(refine WL.ret ?_) |(refine kCond ?_;first |(refine WL.condF' rfl ?_ ?_;(focus (first |(simp <;> omega)))) |(refine WL.cond rfl (fun h=>?_) (fun h=>?_)))) |(refine lthen_n ?_) |(refine lthen_r ?_) |(refine lblock_n ?_) |(refine lblock_r ?_) |(refine' LPost.r1 (r := .cell 4 37) (.inl rfl) ?_ ?_;rotate_left 1;(focus (first |(exact Res1.cellH 1 tT_ok hh rfl rfl rfl rfl) |(exact Res1.cellH 2 tT_ok hh rfl rfl rfl rfl) |(exact Res1.cellH 3 tT_ok hh rfl rfl rfl rfl))))
   all_goals first
     | skip
       replace hh:=hh.nil0.nil0
       apply DrwB.fin (y:=(EE.mk 1 _ _ ⟨_,_,_⟩ _ _ [] [],fun _=>(0,0))) (hh:=hh)
       case hv=>rfl
       case hi=>assumption
       case hs =>
         dsimp only [EE.ob,List.cons_append,List.nil_append]
         (repeat' first |(exact Sel.nil) |(exact Sel.refl _) |(refine' Sel.p ?_ ?_;rotate_left 1;(focus (((repeat' first |(exact Pick.here) |(refine' Pick.there ?_));done)))))
         (repeat' first |(exact Sel.refl _) |(refine Sel.drop ?_))
       case hp =>
         refine ⟨?_,.mk (by simp [shp,EE.kind]) (fun k hk=>by cases hk) (fun q hq=>by cases hq)⟩
         dsimp only
         rw [EE.wgt_eq]
         simp only [EE.value,EE.qual,EE.name,EE.kids,EE.sub,Val.wt,wgt_nilQ,wgt_nilEE,List.length_nil]
         have hq2:x.text.length≤4:=hq
         omega
     | skip
       replace hh:=hh
       apply DrwB.fin (y:=y) (hh:=hh)
       case hv=>rfl
       case hi=>assumption
       case hs =>
         dsimp only [EE.ob,List.cons_append,List.nil_append]
         (repeat' first |(exact Sel.nil) |(exact Sel.refl _) |(refine' Sel.p ?_ ?_;rotate_left 1;(focus (((repeat' first |(exact Pick.here) |(refine' Pick.there ?_));done)))))
         (repeat' first |(exact Sel.refl _) |(refine Sel.drop ?_))
       case hp=>exact ⟨Nat.le_trans hq.1 h8,hq.2⟩
     | skip
       replace hh:=hh.nil0
       apply DrwB.fin (y:=(EE.mk _ _ _ ⟨_,_,_⟩ _ _ y.1 [],f2 y.2 (0,0))) (hh:=hh)
       case hv=>rfl
       case hi=>assumption
       case hs =>
         dsimp only [EE.ob,List.cons_append,List.nil_append]
         (repeat' first |(exact Sel.nil) |(exact Sel.refl _) |(refine' Sel.p ?_ ?_;rotate_left 1;(focus (((repeat' first |(exact Pick.here) |(refine' Pick.there ?_));done)))))
         (repeat' first |(exact Sel.refl _) |(refine Sel.drop ?_))
       case hp =>
         have g1:y.1.length≤3:=by have:=hq.1;omega
         have g2:=kidsE_wgt hq.2
         have g3:=Nat.mul_le_mul_right (wE (k)+1) g1
         have g4:=wE_kids (k)
         refine ⟨?_,.mk (by have:=hq.1;simp [shp,EE.kind,EE.kids];try omega) (fun k hk=>(hq.2 k hk).2) (fun q hq=>by cases hq)⟩
         dsimp only
         rw [EE.wgt_eq]
         simp only [EE.value,EE.qual,EE.name,EE.kids,EE.sub,Val.wt,wgt_nilQ,List.length_nil]
         omega
 obtain ⟨k,rfl⟩:∃ j,k=j+1:=⟨k - 1,by omega⟩
 replace hp:=hp k rfl (by omega)
 repeat' first |(refine kAlloc ?_ ;refine LOps.allocH tT_ok hh rfl rfl ?_ ;intro s n hh) |(refine kStore ?_ ;first |(refine LOps.storeH tT_ok 1 hh rfl rfl rfl rfl rfl rfl rfl rfl rfl ?_ ;intro s hh) |(refine LOps.storeH tT_ok 2 hh rfl rfl rfl rfl rfl rfl rfl rfl rfl ?_ ;intro s hh) |(refine LOps.storeH tT_ok 3 hh rfl rfl rfl rfl rfl rfl rfl rfl rfl ?_ ;intro s hh)) |(refine kBsl ?_ ;first |(refine' LOps.bslO (d:=72) tT_ok rfl rfl rfl rfl rfl rfl rfl rfl hh ?_ ?_ ?_ ;rotate_left 2 ;(focus ((repeat' first |(exact ConsOL.nil) |(exact ConsO.scal rfl) |(refine' ConsO.op ?_;((repeat' first |(exact Pick.here) |(refine' Pick.there ?_));done)) |(refine' ConsOL.cons ?_ ?_) |(refine' ConsO.agg ?_));done)) ;(focus ((repeat' first |(exact ElsH.of rfl));done)) ;intro s n hh) |(refine' LOps.bslO (d:=82) tT_ok rfl rfl rfl rfl rfl rfl rfl rfl hh ?_ ?_ ?_ ;rotate_left 2 ;(focus ((repeat' first |(exact ConsOL.nil) |(exact ConsO.scal rfl) |(refine' ConsO.op ?_;((repeat' first |(exact Pick.here) |(refine' Pick.there ?_));done)) |(refine' ConsOL.cons ?_ ?_) |(refine' ConsO.agg ?_));done)) ;(focus ((repeat' first |(exact ElsH.of rfl));done)) ;intro s n hh)) |(refine kCallN 26 ?_ ;first |(refine LOps.drawH 0 rfl rfl ok26 hh rfl rfl ?_ (specl1Below_d hb (by omega)) ?_ ;(focus (first | assumption | omega)) ;intro s x i h hq hi hh ;try dsimp only)) |(refine kCallN 39 ?_ ;first |(refine LOps.drawH 0 rfl rfl ok39 hh rfl rfl ?_ (specl1Once_d hb (by omega)) ?_ ;(focus (first | assumption | omega)) ;intro s x i h hq hi hh ;try dsimp only) |(refine LOps.drawH 1 rfl rfl ok39 hh rfl rfl ?_ (specl1Once_d hb (by omega)) ?_ ;(focus (first | assumption | omega)) ;intro s x i h hq hi hh ;try dsimp only)) |(refine kCallN 46 ?_ ;first |(refine LOps.drawH 0 rfl rfl ok46 hh rfl rfl ?_ (specl7Value_d hb) ?_ ;(focus (first | assumption | omega)) ;intro s x i h hq hi hh ;try dsimp only)) |(refine kCallN 45 ?_ ;first |(refine LOps.drawB 0 rfl rfl ok45 hh (hcol) .nil rfl rfl ?_ ?_ ;(focus (first | assumption | omega)) ;intro s y i h hq hi hh ;try dsimp only [List.cons_append,List.nil_append] at hh)) |(refine kCallN 47 ?_ ;first |(refine LOps.drawB 0 rfl rfl ok47 hh (hk _ (by omega)) .nil rfl rfl ?_ ?_ ;(focus (first | assumption | omega)) ;intro s y i h hq hi hh ;try dsimp only [List.cons_append,List.nil_append] at hh)) |(refine kCallN 48 ?_ ;first |(refine LOps.drawB 0 rfl rfl ok48 hh (hp) .nil rfl rfl ?_ ?_ ;(focus (first | assumption | omega)) ;intro s y i h hq hi hh ;try dsimp only [List.cons_append,List.nil_append] at hh) |(refine LOps.drawB 1 rfl rfl ok48 hh (hp) .nil rfl rfl ?_ ?_ ;(focus (first | assumption | omega)) ;intro s y i h hq hi hh ;try dsimp only [List.cons_append,List.nil_append] at hh)) |(refine kOps ?_;first |(refine LOps.nil ?_) |(refine kG ?_;first |(refine LOps.gT rfl rfl rfl ?_) |(refine LOps.gD false rfl rfl rfl ?_ ?_;(focus (first |(exact decide_eq_false (by assumption)))))) |(refine' LOps.ans (v := .agg _) (AnsL.buildZ tT_ok rfl rfl rfl rfl ?_) ?_;rotate_left 1;(focus ((repeat' first |(exact Fills.nil) |(refine' Fills.cons rfl rfl rfl rfl ?_));done))) |(refine LOps.ev tT_ok rfl ?_) |(refine kBin ?_;first |(refine LOps.ans (AnsL.add rfl rfl ?_) ?_;(focus (constructor <;> omega))) |(refine LOps.ans (AnsL.sub rfl rfl ?_) ?_;(focus (constructor <;> omega))))) |(refine kWL ?_;first |(refine WL.seq ?_) |(refine WL.region (by kernel_rfl) ?_) |(refine WL.block ?_) |(refine WL.skip ?_) |(refine WL.ret ?_) |(refine kCond ?_;first |(refine WL.condT' rfl ?_ ?_;(focus (first |(simp <;> omega)))) |(refine WL.cond rfl (fun h=>?_) (fun h=>?_)))) |(refine lthen_n ?_) |(refine lthen_r ?_) |(refine lblock_n ?_) |(refine lblock_r ?_) |(refine' LPost.r1 (r := .cell 4 37) (.inl rfl) ?_ ?_;rotate_left 1;(focus (first |(exact Res1.cellH 1 tT_ok hh rfl rfl rfl rfl) |(exact Res1.cellH 2 tT_ok hh rfl rfl rfl rfl) |(exact Res1.cellH 3 tT_ok hh rfl rfl rfl rfl))))
 all_goals try simp only [EQ.q_eq,EE.one_q] at hh
 all_goals first
   | skip
     replace hh:=hh.nil0.nil0
     apply DrwB.fin (y:=(EE.mk 1 _ _ ⟨_,_,_⟩ _ _ [] [],fun _=>(0,0))) (hh:=hh)
     case hv=>rfl
     case hi=>assumption
     case hs =>
       dsimp only [EE.ob,List.cons_append,List.nil_append]
       (repeat' first |(exact Sel.nil) |(exact Sel.refl _) |(refine' Sel.p ?_ ?_;rotate_left 1;(focus (((repeat' first |(exact Pick.here) |(refine' Pick.there ?_));done)))))
       (repeat' first |(exact Sel.refl _) |(refine Sel.drop ?_))
     case hp =>
       refine ⟨?_,.mk (by simp [shp,EE.kind]) (fun k hk=>by cases hk) (fun q hq=>by cases hq)⟩
       dsimp only
       rw [EE.wgt_eq]
       simp only [EE.value,EE.qual,EE.name,EE.kids,EE.sub,Val.wt,wgt_nilQ,wgt_nilEE,List.length_nil]
       have hq2:x.text.length≤4:=hq
       omega
   | skip
     replace hh:=hh
     apply DrwB.fin (y:=y) (hh:=hh)
     case hv=>rfl
     case hi=>assumption
     case hs =>
       dsimp only [EE.ob,List.cons_append,List.nil_append]
       (repeat' first |(exact Sel.nil) |(exact Sel.refl _) |(refine' Sel.p ?_ ?_;rotate_left 1;(focus (((repeat' first |(exact Pick.here) |(refine' Pick.there ?_));done)))))
       (repeat' first |(exact Sel.refl _) |(refine Sel.drop ?_))
     case hp=>exact ⟨Nat.le_trans hq.1 h8,hq.2⟩
   | skip
     replace hh:=hh.nil0
     apply DrwB.fin (y:=(EE.mk _ _ _ ⟨_,_,_⟩ _ _ y.1 [],f2 y.2 (0,0))) (hh:=hh)
     case hv=>rfl
     case hi=>assumption
     case hs =>
       dsimp only [EE.ob,List.cons_append,List.nil_append]
       (repeat' first |(exact Sel.nil) |(exact Sel.refl _) |(refine' Sel.p ?_ ?_;rotate_left 1;(focus (((repeat' first |(exact Pick.here) |(refine' Pick.there ?_));done)))))
       (repeat' first |(exact Sel.refl _) |(refine Sel.drop ?_))
     case hp =>
       have g1:y.1.length≤3:=by have:=hq.1;omega
       have g2:=kidsE_wgt hq.2
       have g3:=Nat.mul_le_mul_right (wE (k+1)+1) g1
       have g4:=wE_kids (k+1)
       refine ⟨?_,.mk (by have:=hq.1;simp [shp,EE.kind,EE.kids];try omega) (fun k hk=>(hq.2 k hk).2) (fun q hq=>by cases hq)⟩
       dsimp only
       rw [EE.wgt_eq]
       simp only [EE.value,EE.qual,EE.name,EE.kids,EE.sub,Val.wt,wgt_nilQ,List.length_nil]
       omega
   | skip
     replace hh:=hh.nil0
     apply DrwB.fin (y:=(EE.mk _ _ _ ⟨_,_,_⟩ _ _ [] [y.1],f2 (0,0) (1,_))) (hh:=hh)
     case hv=>rfl
     case hi=>assumption
     case hs =>
       dsimp only [EE.ob,List.cons_append,List.nil_append]
       (repeat' first |(exact Sel.nil) |(exact Sel.refl _) |(refine' Sel.p ?_ ?_;rotate_left 1;(focus (((repeat' first |(exact Pick.here) |(refine' Pick.there ?_));done)))))
       (repeat' first |(exact Sel.refl _) |(refine Sel.drop ?_))
     case hp =>
       refine ⟨?_,.mk (by simp [shp,EE.kind,EE.kids,EE.sub]) (fun k hk=>by cases hk) (fun q hq' k hk=>by have e:=List.mem_singleton.1 hq';subst e;exact hq.2 k hk)⟩
       dsimp only
       rw [EE.wgt_eq]
       simp only [EE.value,EE.qual,EE.name,EE.kids,EE.sub,Val.wt,wgt_nilEE,wgt_oneQ,List.length_nil]
       have g1:=hq.1
       have g2:wE (k+1+1)=3*(wE (k+1)+1)+1+(64+6*wE k):=rfl
       omega
   | skip
     skip
     apply DrwB.fin (y:=(EE.mk _ _ _ ⟨_,_,_⟩ _ _ _ [y.1],f2 (_,_) (1,_))) (hh:=hh)
     case hv=>rfl
     case hi=>assumption
     case hs =>
       dsimp only [EE.ob,List.cons_append,List.nil_append]
       (repeat' first |(exact Sel.nil) |(exact Sel.refl _) |(refine' Sel.p ?_ ?_;rotate_left 1;(focus (((repeat' first |(exact Pick.here) |(refine' Pick.there ?_));done)))))
       (repeat' first |(exact Sel.refl _) |(refine Sel.drop ?_))
     case hp =>
       rename List EE × Nat × Nat=>y0
       have hq0:y0.1.length=Int.toNat 1∧∀ e∈y0.1,Rt (wE (k+1)) e:=by assumption
       have g1:y0.1.length≤3:=by have:=hq0.1;omega
       have g2:=kidsE_wgt hq0.2
       have g3:=Nat.mul_le_mul_right (wE (k+1)+1) g1
       have g4:=hq.1
       refine ⟨?_,.mk (by have:=hq0.1;simp [shp,EE.kind,EE.kids,EE.sub];try omega) (fun k hk=>(hq0.2 k hk).2) (fun q hq' k hk=>by have e:=List.mem_singleton.1 hq';subst e;exact hq.2 k hk)⟩
       dsimp only
       rw [EE.wgt_eq]
       simp only [EE.value,EE.qual,EE.name,EE.kids,EE.sub,Val.wt,wgt_oneQ,List.length_nil]
       have g5:wE (k+1+1)=3*(wE (k+1)+1)+1+(64+6*wE k):=rfl
       omega
end Go.Proofs.Ytikghanejpigjaa
