/-
 Plans' trees drawn, whole: by induction on the depth. Own work; no condition.
-/
import Derived.Test.YtolhegocbkckdaaDPd
namespace Go.Proofs.Ytolhegocbkckdaa
open Go
set_option linter.unusedSimpArgs false
set_option linter.unusedVariables false
def wE:Nat→Nat
 | 0=>8
 | 1=>30
 | n+2=>3*(wE (n+1)+1)+1+(64+6*wE n)
theorem wE_le:∀ n,8≤wE n
 | 0=>by decide
 | 1=>by decide
 | n+2=>by simp only [wE];omega
theorem wE_kids (n:Nat):3*(wE n+1)+1≤wE (n+1):=by
 cases n with
 | zero=>decide
 | succ n=>show 3*(wE (n+1)+1)+1≤3*(wE (n+1)+1)+1+(64+6*wE n);omega
theorem wE_mono (n:Nat):wE n≤wE (n+1):=by have:=wE_kids n;omega
theorem kids_wgt {es:List PE} {w:Nat} (h:∀ e∈es,wgt e.v≤w):wgt (.sl 0 (es.map PE.toV))≤es.length*(w+1):=wgt_sl_le es fun e he=>by rw [PE.toV_eq];exact h e he
theorem PL.q_eq (p:PL):V.agg [.sl 0 (p.tables.map iV),.sl 0 (p.on.map PE.vS),.sl 0 (p.wher.map PE.toV),.sl 0 (p.order.map PE.sv),.sl 0 (p.items.map PE.toV),.sl 0 (p.names.map sV),.bool p.distinct,.int .i64 p.limit]=PE.planV p:=(PE.planV_eq p).symm
theorem wgt_nilP:wgt (.sl 0 (([]:List PL).map PE.planV))=0:=rfl
theorem wgt_nilE:wgt (.sl 0 (([]:List PE).map PE.toV))=0:=rfl
theorem wgt_oneP (p:PL):wgt (.sl 0 ([p].map PE.planV))=1+wgt p.v:=by simp only [List.map_cons,List.map_nil,PE.planV_eq,wgt,wgtL,List.length_cons,List.length_nil];omega
set_option maxHeartbeats 4000000 in
theorem specl19Expr_d {b:V} (hb:Bytes b):∀ (n:Nat) (deep:Int),0≤deep→deep≤n→n≤60→PE.D Try.prog 62 b [.int .i64 deep] (fun e=>wgt e.v≤wE n):=by
 intro n
 induction n using Nat.strongRecOn with
 | ind n ih =>
 intro deep hd0 hdn hn60
 have hk:∀ (k:Nat),n=k+1→1≤deep→∀ m:Int,0≤m∧m≤5→PE.KD Try.prog 102 b [.int .i64 deep,.int .i64 m] (fun es=>es.length=m.toNat∧∀ e∈es,wgt e.v≤wE k):=fun k hk hd m hm =>
   specl19Kids_d (ih k (by omega) (deep - 1) (by omega) (by omega) (by omega)) (by omega) hm
 have hp:∀ (k:Nat),n=k+2→2≤deep→PL.D Try.prog 86 b [.int .i64 (deep - 2)] (fun p=>wgt p.v≤64+6*wE k∧0<p.items.length):=fun k hk hd =>
   specl19Plan_d hb (ih k (by omega) (deep - 2) (by omega) (by omega) (by omega)) (by omega)
 intro s H l i h hi hh
 replace hh:Hold s s.next (.cell l (curC b i h)::H):=hh
 have h8:=wE_le n
 refine LCalls.body0 Try.func62 rfl (by kernel_rfl) ?_
 by_cases hz:deep≤0
 · skip
   repeat' first |(refine kAlloc ?_ ;refine LOps.allocH tT_ok hh rfl rfl ?_ ;intro s n hh) |(refine kStore ?_ ;first |(refine LOps.storeH tT_ok 1 hh rfl rfl rfl rfl rfl rfl rfl rfl rfl ?_ ;intro s hh)) |(refine kCallN 59 ?_ ;first |(refine LOps.drawH 0 rfl rfl ok59 hh rfl rfl ?_ (specl1Below_d hb (by omega)) ?_ ;(focus (first | assumption | omega)) ;intro s x i h hq hi hh ;try dsimp only)) |(refine kCallN 72 ?_ ;first |(refine LOps.drawH 1 rfl rfl ok72 hh rfl rfl ?_ (specl1Once_d hb (by omega)) ?_ ;(focus (first | assumption | omega)) ;intro s x i h hq hi hh ;try dsimp only)) |(refine kCallN 101 ?_ ;first |(refine LOps.drawH 0 rfl rfl ok101 hh rfl rfl ?_ (specl7Value_d hb) ?_ ;(focus (first | assumption | omega)) ;intro s x i h hq hi hh ;try dsimp only)) |(refine kOps ?_;first |(refine LOps.nil ?_) |(refine kG ?_;first |(refine LOps.gF rfl rfl rfl ?_) |(refine LOps.gD true rfl rfl rfl ?_ ?_;(focus (first |(exact decide_eq_true (by assumption)))))) |(refine' LOps.ans (v := .agg _) (AnsL.buildZ tT_ok rfl rfl rfl rfl ?_) ?_;rotate_left 1;(focus ((repeat' first |(exact Fills.nil) |(refine' Fills.cons rfl rfl rfl rfl ?_));done))) |(refine LOps.ev tT_ok rfl ?_)) |(refine kWL ?_;first |(refine WL.seq ?_) |(refine WL.region (by kernel_rfl) ?_) |(refine WL.skip ?_) |(refine WL.ret ?_) |(refine kCond ?_;first |(refine WL.condT rfl ?_) |(refine WL.cond rfl (fun h=>?_) (fun h=>?_)))) |(refine lthen_n ?_) |(refine lthen_r ?_) |(refine' LPost.r1 (r := .cell 4 29) (.inl rfl) ?_ ?_;rotate_left 1;(focus (first | exact Res1.cellH 0 tT_ok hh rfl rfl rfl rfl | exact Res1.cellH 1 tT_ok hh rfl rfl rfl rfl | exact Res1.cellH 2 tT_ok hh rfl rfl rfl rfl | exact Res1.cellH 3 tT_ok hh rfl rfl rfl rfl | exact Res1.cellH 4 tT_ok hh rfl rfl rfl rfl | exact Res1.cellH 5 tT_ok hh rfl rfl rfl rfl | exact Res1.cellH 6 tT_ok hh rfl rfl rfl rfl | exact Res1.cellH 7 tT_ok hh rfl rfl rfl rfl | exact Res1.cellHW 0 tT_ok hh rfl rfl rfl rfl | exact Res1.cellHW 1 tT_ok hh rfl rfl rfl rfl | exact Res1.cellHW 2 tT_ok hh rfl rfl rfl rfl | exact Res1.cellHW 3 tT_ok hh rfl rfl rfl rfl | exact Res1.cellHW 4 tT_ok hh rfl rfl rfl rfl | exact Res1.cellHW 5 tT_ok hh rfl rfl rfl rfl | exact Res1.cellHW 6 tT_ok hh rfl rfl rfl rfl | exact Res1.cellHW 7 tT_ok hh rfl rfl rfl rfl)))
   all_goals
     replace hh:=hh.nil0.nil0
     apply DrwB.fin (y:=(PE.mk _ _ _ ⟨_,_,_⟩ _ _ [] [],fun _=>(0,0))) (hh:=hh)
     case hv=>rfl
     case hi=>assumption
     case hs =>
       dsimp only [PE.ob,List.cons_append,List.nil_append]
       (repeat' first |(exact Sel.nil) |(exact Sel.refl _) |(refine' Sel.p ?_ ?_;rotate_left 1;(focus (((repeat' first |(exact Pick.here) |(refine' Pick.there ?_));done)))))
       (repeat' first |(exact Sel.refl _) |(refine Sel.drop ?_))
     case hp =>
       dsimp only
       rw [PE.wgt_eq]
       simp only [PE.value,PE.kids,PE.sub,wgt_nilP,wgt_nilE,List.length_nil]
       first | omega |(have hq2:x.text.length≤4:=hq;omega)
 obtain ⟨k,rfl⟩:∃ k,n=k+1:=⟨n - 1,by omega⟩
 replace hk:=hk k rfl (by omega)
 by_cases ho:deep≤1
 · skip
   repeat' first |(refine kAlloc ?_ ;refine LOps.allocH tT_ok hh rfl rfl ?_ ;intro s n hh) |(refine kStore ?_ ;first |(refine LOps.storeH tT_ok 1 hh rfl rfl rfl rfl rfl rfl rfl rfl rfl ?_ ;intro s hh) |(refine LOps.storeH tT_ok 2 hh rfl rfl rfl rfl rfl rfl rfl rfl rfl ?_ ;intro s hh)) |(refine kCallN 59 ?_ ;first |(refine LOps.drawH 0 rfl rfl ok59 hh rfl rfl ?_ (specl1Below_d hb (by omega)) ?_ ;(focus (first | assumption | omega)) ;intro s x i h hq hi hh ;try dsimp only)) |(refine kCallN 72 ?_ ;first |(refine LOps.drawH 0 rfl rfl ok72 hh rfl rfl ?_ (specl1Once_d hb (by omega)) ?_ ;(focus (first | assumption | omega)) ;intro s x i h hq hi hh ;try dsimp only) |(refine LOps.drawH 1 rfl rfl ok72 hh rfl rfl ?_ (specl1Once_d hb (by omega)) ?_ ;(focus (first | assumption | omega)) ;intro s x i h hq hi hh ;try dsimp only)) |(refine kCallN 101 ?_ ;first |(refine LOps.drawH 0 rfl rfl ok101 hh rfl rfl ?_ (specl7Value_d hb) ?_ ;(focus (first | assumption | omega)) ;intro s x i h hq hi hh ;try dsimp only)) |(refine kCallN 102 ?_ ;first |(refine LOps.drawB 0 rfl rfl ok102 hh (hk _ (by omega)) .nil rfl rfl ?_ ?_ ;(focus (first | assumption | omega)) ;intro s y i h hq hi hh ;try dsimp only [List.cons_append,List.nil_append] at hh)) |(refine kOps ?_;first |(refine LOps.nil ?_) |(refine kG ?_;first |(refine LOps.gT rfl rfl rfl ?_) |(refine LOps.gD false rfl rfl rfl ?_ ?_;(focus (first |(exact decide_eq_false (by assumption)))))) |(refine' LOps.ans (v := .agg _) (AnsL.buildZ tT_ok rfl rfl rfl rfl ?_) ?_;rotate_left 1;(focus ((repeat' first |(exact Fills.nil) |(refine' Fills.cons rfl rfl rfl rfl ?_));done))) |(refine LOps.ev tT_ok rfl ?_) |(refine kBin ?_;first |(refine LOps.ans (AnsL.add rfl rfl ?_) ?_;(focus (constructor <;> omega))))) |(refine kWL ?_;first |(refine WL.seq ?_) |(refine WL.region (by kernel_rfl) ?_) |(refine WL.block ?_) |(refine WL.skip ?_) |(refine WL.ret ?_) |(refine kCond ?_;first |(refine WL.condF' rfl ?_ ?_;(focus (first |(simp <;> omega)))) |(refine WL.cond rfl (fun h=>?_) (fun h=>?_)))) |(refine lthen_n ?_) |(refine lthen_r ?_) |(refine lblock_n ?_) |(refine lblock_r ?_) |(refine' LPost.r1 (r := .cell 4 29) (.inl rfl) ?_ ?_;rotate_left 1;(focus (first | exact Res1.cellH 0 tT_ok hh rfl rfl rfl rfl | exact Res1.cellH 1 tT_ok hh rfl rfl rfl rfl | exact Res1.cellH 2 tT_ok hh rfl rfl rfl rfl | exact Res1.cellH 3 tT_ok hh rfl rfl rfl rfl | exact Res1.cellH 4 tT_ok hh rfl rfl rfl rfl | exact Res1.cellH 5 tT_ok hh rfl rfl rfl rfl | exact Res1.cellH 6 tT_ok hh rfl rfl rfl rfl | exact Res1.cellH 7 tT_ok hh rfl rfl rfl rfl | exact Res1.cellHW 0 tT_ok hh rfl rfl rfl rfl | exact Res1.cellHW 1 tT_ok hh rfl rfl rfl rfl | exact Res1.cellHW 2 tT_ok hh rfl rfl rfl rfl | exact Res1.cellHW 3 tT_ok hh rfl rfl rfl rfl | exact Res1.cellHW 4 tT_ok hh rfl rfl rfl rfl | exact Res1.cellHW 5 tT_ok hh rfl rfl rfl rfl | exact Res1.cellHW 6 tT_ok hh rfl rfl rfl rfl | exact Res1.cellHW 7 tT_ok hh rfl rfl rfl rfl)))
   all_goals
     first
       | skip
         replace hh:=hh.nil0.nil0
         apply DrwB.fin (y:=(PE.mk _ _ _ ⟨_,_,_⟩ _ _ [] [],fun _=>(0,0))) (hh:=hh)
         case hv=>rfl
         case hi=>assumption
         case hs =>
           dsimp only [PE.ob,List.cons_append,List.nil_append]
           (repeat' first |(exact Sel.nil) |(exact Sel.refl _) |(refine' Sel.p ?_ ?_;rotate_left 1;(focus (((repeat' first |(exact Pick.here) |(refine' Pick.there ?_));done)))))
           (repeat' first |(exact Sel.refl _) |(refine Sel.drop ?_))
         case hp =>
           dsimp only
           rw [PE.wgt_eq]
           simp only [PE.value,PE.kids,PE.sub,wgt_nilP,wgt_nilE,List.length_nil]
           first | omega |(have hq2:x.text.length≤4:=hq;omega)
       | skip
         replace hh:=hh.nil0
         apply DrwB.fin (y:=(PE.mk _ _ _ ⟨_,_,_⟩ _ _ y.1 [],f2 y.2 (0,0))) (hh:=hh)
         case hv=>rfl
         case hi=>assumption
         case hs =>
           dsimp only [PE.ob,List.cons_append,List.nil_append]
           (repeat' first |(exact Sel.nil) |(exact Sel.refl _) |(refine' Sel.p ?_ ?_;rotate_left 1;(focus (((repeat' first |(exact Pick.here) |(refine' Pick.there ?_));done)))))
           (repeat' first |(exact Sel.refl _) |(refine Sel.drop ?_))
         case hp =>
           have g1:y.1.length≤3:=by have:=hq.1;omega
           have g2:=kids_wgt hq.2
           have g3:=Nat.mul_le_mul_right (wE k+1) g1
           have g4:=wE_kids k
           dsimp only
           rw [PE.wgt_eq]
           simp only [PE.value,PE.kids,PE.sub,wgt_nilP,List.length_nil]
           omega
 obtain ⟨k,rfl⟩:∃ j,k=j+1:=⟨k - 1,by omega⟩
 replace hp:=hp k rfl (by omega)
 repeat' first |(refine kAlloc ?_ ;refine LOps.allocH tT_ok hh rfl rfl ?_ ;intro s n hh) |(refine kStore ?_ ;first |(refine LOps.storeH tT_ok 1 hh rfl rfl rfl rfl rfl rfl rfl rfl rfl ?_ ;intro s hh) |(refine LOps.storeH tT_ok 2 hh rfl rfl rfl rfl rfl rfl rfl rfl rfl ?_ ;intro s hh) |(refine LOps.storeH tT_ok 3 hh rfl rfl rfl rfl rfl rfl rfl rfl rfl ?_ ;intro s hh)) |(refine kBsl ?_ ;first |(refine' LOps.bslO (d:=69) tT_ok rfl rfl rfl rfl rfl rfl rfl rfl hh ?_ ?_ ?_ ;rotate_left 2 ;(focus ((repeat' first |(exact ConsOL.nil) |(exact ConsO.scal rfl) |(refine' ConsO.op ?_;((repeat' first |(exact Pick.here) |(refine' Pick.there ?_));done)) |(refine' ConsOL.cons ?_ ?_) |(refine' ConsO.agg ?_));done)) ;(focus ((repeat' first |(exact ElsH.of rfl));done)) ;intro s n hh) |(refine' LOps.bslO (d:=79) tT_ok rfl rfl rfl rfl rfl rfl rfl rfl hh ?_ ?_ ?_ ;rotate_left 2 ;(focus ((repeat' first |(exact ConsOL.nil) |(exact ConsO.scal rfl) |(refine' ConsO.op ?_;((repeat' first |(exact Pick.here) |(refine' Pick.there ?_));done)) |(refine' ConsOL.cons ?_ ?_) |(refine' ConsO.agg ?_));done)) ;(focus ((repeat' first |(exact ElsH.of rfl));done)) ;intro s n hh)) |(refine kCallN 59 ?_ ;first |(refine LOps.drawH 0 rfl rfl ok59 hh rfl rfl ?_ (specl1Below_d hb (by omega)) ?_ ;(focus (first | assumption | omega)) ;intro s x i h hq hi hh ;try dsimp only)) |(refine kCallN 72 ?_ ;first |(refine LOps.drawH 0 rfl rfl ok72 hh rfl rfl ?_ (specl1Once_d hb (by omega)) ?_ ;(focus (first | assumption | omega)) ;intro s x i h hq hi hh ;try dsimp only) |(refine LOps.drawH 1 rfl rfl ok72 hh rfl rfl ?_ (specl1Once_d hb (by omega)) ?_ ;(focus (first | assumption | omega)) ;intro s x i h hq hi hh ;try dsimp only)) |(refine kCallN 101 ?_ ;first |(refine LOps.drawH 0 rfl rfl ok101 hh rfl rfl ?_ (specl7Value_d hb) ?_ ;(focus (first | assumption | omega)) ;intro s x i h hq hi hh ;try dsimp only)) |(refine kCallN 102 ?_ ;first |(refine LOps.drawB 0 rfl rfl ok102 hh (hk _ (by omega)) .nil rfl rfl ?_ ?_ ;(focus (first | assumption | omega)) ;intro s y i h hq hi hh ;try dsimp only [List.cons_append,List.nil_append] at hh)) |(refine kCallN 86 ?_ ;first |(refine LOps.drawB 0 rfl rfl ok86 hh (hp) .nil rfl rfl ?_ ?_ ;(focus (first | assumption | omega)) ;intro s y i h hq hi hh ;try dsimp only [List.cons_append,List.nil_append] at hh) |(refine LOps.drawB 1 rfl rfl ok86 hh (hp) .nil rfl rfl ?_ ?_ ;(focus (first | assumption | omega)) ;intro s y i h hq hi hh ;try dsimp only [List.cons_append,List.nil_append] at hh)) |(refine kOps ?_;first |(refine LOps.nil ?_) |(refine kG ?_;first |(refine LOps.gT rfl rfl rfl ?_) |(refine LOps.gD false rfl rfl rfl ?_ ?_;(focus (first |(exact decide_eq_false (by assumption)))))) |(refine' LOps.ans (v := .agg _) (AnsL.buildZ tT_ok rfl rfl rfl rfl ?_) ?_;rotate_left 1;(focus ((repeat' first |(exact Fills.nil) |(refine' Fills.cons rfl rfl rfl rfl ?_));done))) |(refine LOps.ev tT_ok rfl ?_) |(refine kBin ?_;first |(refine LOps.ans (AnsL.add rfl rfl ?_) ?_;(focus (constructor <;> omega))) |(refine LOps.ans (AnsL.sub rfl rfl ?_) ?_;(focus (constructor <;> omega))))) |(refine kWL ?_;first |(refine WL.seq ?_) |(refine WL.region (by kernel_rfl) ?_) |(refine WL.block ?_) |(refine WL.skip ?_) |(refine WL.ret ?_) |(refine kCond ?_;first |(refine WL.condT' rfl ?_ ?_;(focus (first |(simp <;> omega)))) |(refine WL.cond rfl (fun h=>?_) (fun h=>?_)))) |(refine lthen_n ?_) |(refine lthen_r ?_) |(refine lblock_n ?_) |(refine lblock_r ?_) |(refine' LPost.r1 (r := .cell 4 29) (.inl rfl) ?_ ?_;rotate_left 1;(focus (first | exact Res1.cellH 0 tT_ok hh rfl rfl rfl rfl | exact Res1.cellH 1 tT_ok hh rfl rfl rfl rfl | exact Res1.cellH 2 tT_ok hh rfl rfl rfl rfl | exact Res1.cellH 3 tT_ok hh rfl rfl rfl rfl | exact Res1.cellH 4 tT_ok hh rfl rfl rfl rfl | exact Res1.cellH 5 tT_ok hh rfl rfl rfl rfl | exact Res1.cellH 6 tT_ok hh rfl rfl rfl rfl | exact Res1.cellH 7 tT_ok hh rfl rfl rfl rfl | exact Res1.cellHW 0 tT_ok hh rfl rfl rfl rfl | exact Res1.cellHW 1 tT_ok hh rfl rfl rfl rfl | exact Res1.cellHW 2 tT_ok hh rfl rfl rfl rfl | exact Res1.cellHW 3 tT_ok hh rfl rfl rfl rfl | exact Res1.cellHW 4 tT_ok hh rfl rfl rfl rfl | exact Res1.cellHW 5 tT_ok hh rfl rfl rfl rfl | exact Res1.cellHW 6 tT_ok hh rfl rfl rfl rfl | exact Res1.cellHW 7 tT_ok hh rfl rfl rfl rfl)))
 all_goals try simp only [PL.q_eq] at hh
 all_goals
   first
     | skip
       replace hh:=hh.nil0.nil0
       apply DrwB.fin (y:=(PE.mk _ _ _ ⟨_,_,_⟩ _ _ [] [],fun _=>(0,0))) (hh:=hh)
       case hv=>rfl
       case hi=>assumption
       case hs =>
         dsimp only [PE.ob,List.cons_append,List.nil_append]
         (repeat' first |(exact Sel.nil) |(exact Sel.refl _) |(refine' Sel.p ?_ ?_;rotate_left 1;(focus (((repeat' first |(exact Pick.here) |(refine' Pick.there ?_));done)))))
         (repeat' first |(exact Sel.refl _) |(refine Sel.drop ?_))
       case hp =>
         dsimp only
         rw [PE.wgt_eq]
         simp only [PE.value,PE.kids,PE.sub,wgt_nilP,wgt_nilE,List.length_nil]
         first | omega |(have hq2:x.text.length≤4:=hq;omega)
     | skip
       replace hh:=hh.nil0
       apply DrwB.fin (y:=(PE.mk _ _ _ ⟨_,_,_⟩ _ _ y.1 [],f2 y.2 (0,0))) (hh:=hh)
       case hv=>rfl
       case hi=>assumption
       case hs =>
         dsimp only [PE.ob,List.cons_append,List.nil_append]
         (repeat' first |(exact Sel.nil) |(exact Sel.refl _) |(refine' Sel.p ?_ ?_;rotate_left 1;(focus (((repeat' first |(exact Pick.here) |(refine' Pick.there ?_));done)))))
         (repeat' first |(exact Sel.refl _) |(refine Sel.drop ?_))
       case hp =>
         have g1:y.1.length≤3:=by have:=hq.1;omega
         have g2:=kids_wgt hq.2
         have g3:=Nat.mul_le_mul_right (wE (k+1)+1) g1
         have g4:=wE_kids (k+1)
         dsimp only
         rw [PE.wgt_eq]
         simp only [PE.value,PE.kids,PE.sub,wgt_nilP,List.length_nil]
         omega
     | skip
       replace hh:=hh.nil0
       apply DrwB.fin (y:=(PE.mk _ _ _ ⟨_,_,_⟩ _ _ [] [y.1],f2 (0,0) (1,_))) (hh:=hh)
       case hv=>rfl
       case hi=>assumption
       case hs =>
         dsimp only [PE.ob,List.cons_append,List.nil_append]
         (repeat' first |(exact Sel.nil) |(exact Sel.refl _) |(refine' Sel.p ?_ ?_;rotate_left 1;(focus (((repeat' first |(exact Pick.here) |(refine' Pick.there ?_));done)))))
         (repeat' first |(exact Sel.refl _) |(refine Sel.drop ?_))
       case hp =>
         dsimp only
         rw [PE.wgt_eq]
         simp only [PE.value,PE.kids,PE.sub,wgt_nilE,wgt_oneP,List.length_nil]
         have g1:=hq.1
         have g2:wE (k+1+1)=3*(wE (k+1)+1)+1+(64+6*wE k):=rfl
         omega
     | skip
       skip
       apply DrwB.fin (y:=(PE.mk _ _ _ ⟨_,_,_⟩ _ _ _ [y.1],f2 (_,_) (1,_))) (hh:=hh)
       case hv=>rfl
       case hi=>assumption
       case hs =>
         dsimp only [PE.ob,List.cons_append,List.nil_append]
         (repeat' first |(exact Sel.nil) |(exact Sel.refl _) |(refine' Sel.p ?_ ?_;rotate_left 1;(focus (((repeat' first |(exact Pick.here) |(refine' Pick.there ?_));done)))))
         (repeat' first |(exact Sel.refl _) |(refine Sel.drop ?_))
       case hp =>
         rename List PE × Nat × Nat=>y0
         have hq0:y0.1.length=Int.toNat 1∧∀ e∈y0.1,wgt e.v≤wE (k+1):=by assumption
         have g1:y0.1.length≤3:=by have:=hq0.1;omega
         have g2:=kids_wgt hq0.2
         have g3:=Nat.mul_le_mul_right (wE (k+1)+1) g1
         have g4:=hq.1
         dsimp only
         rw [PE.wgt_eq]
         simp only [PE.value,PE.kids,PE.sub,wgt_oneP,List.length_nil]
         have g5:wE (k+1+1)=3*(wE (k+1)+1)+1+(64+6*wE k):=rfl
         omega
end Go.Proofs.Ytolhegocbkckdaa
