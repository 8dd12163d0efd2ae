/-
  Typed trees of plans drawn from a string of bytes: conditions.
  Typed plans drawn from a string of bytes.
  Own work; no condition.
-/
import Derived.Test.YtolhegocbkckdaaMg42
import Derived.Test.YtolhegocbkckdaaMg15
namespace Go.Proofs.Ytolhegocbkckdaa
open Go
set_option linter.unusedSimpArgs false
set_option linter.unusedVariables false
set_option maxHeartbeats 8000000 in
theorem specl20Bool_r {b:V} (hb:Bytes b) {ts:List Tab} {env:List (List Int)} {deep:Int} {w u W:Nat} (hd:1≤deep∧deep≤100) (hW:4*(w+1)+u+9≤W)
   (hk:∀ ty m:Int,0≤m∧m≤5→PE.KD Try.prog 97 b [catV ts,envW env,.int .i64 ty,.int .i64 deep,.int .i64 m] (fun es=>es.length=m.toNat∧∀ e∈es,wgt e.v≤w))
   (hp:2≤deep→∀ ty:Int,PL.D Try.prog 127 b [catV ts,envW env,.sl 0 [.int .i64 ty],.int .i64 (deep - 2)] (fun p=>wgt p.v≤u)) :
   PE.D Try.prog 98 b [catV ts,envW env,.int .i64 deep] (fun e=>wgt e.v≤W):=by
 intro s H l i h hi hh
 replace hh:Hold s s.next (.cell l (curC b i h)::H):=hh
 refine LCalls.body0 Try.func98 rfl (by kernel_rfl) ?_
 by_cases hz:deep≤1
 · skip
   repeat' first |(refine kBox ?_ ;first |(refine LOps.boxH hh rfl rfl ?_ ;intro s n hh)) |(refine kAlloc ?_ ;refine LOps.allocH tT_ok hh rfl rfl ?_ ;intro s n hh) |(refine kStore ?_ ;first |(refine LOps.storeH tT_ok 2 hh rfl rfl rfl rfl rfl rfl rfl rfl rfl ?_ ;intro s hh)) |(refine kCallN 59 ?_ ;first |(refine LOps.drawH 0 rfl rfl ok59 hh rfl rfl ?_ (specl1Below_d hb (by omega)) ?_ ;(focus (first | assumption | omega)) ;intro s x i h hq hi hh ;try dsimp only) |(refine LOps.drawH 2 rfl rfl ok59 hh rfl rfl ?_ (specl1Below_d hb (by omega)) ?_ ;(focus (first | assumption | omega)) ;intro s x i h hq hi hh ;try dsimp only)) |(refine kCallN 72 ?_ ;first |(refine LOps.drawH 0 rfl rfl ok72 hh rfl rfl ?_ (specl1Once_d hb (by omega)) ?_ ;(focus (first | assumption | omega)) ;intro s x i h hq hi hh ;try dsimp only)) |(refine kCallN 97 ?_ ;first |(refine LOps.drawB 0 rfl rfl ok97 hh (hk _ _ (by omega)) .nil rfl rfl ?_ ?_ ;(focus (first | assumption | omega)) ;intro s y i h hq hi hh ;try dsimp only [List.cons_append,List.nil_append] at hh)) |(refine kOps ?_;first |(refine LOps.nil ?_) |(refine' LOps.ans (v := .agg _) (AnsL.buildZ tT_ok rfl rfl rfl rfl ?_) ?_;rotate_left 1;(focus ((repeat' first |(exact Fills.nil) |(refine' Fills.cons rfl rfl rfl rfl ?_));done))) |(refine LOps.ev tT_ok rfl ?_) |(refine kLoad ?_;first |(refine LOps.ans (AnsL.loadH tT_ok 2 hh rfl rfl rfl rfl) ?_)) |(refine kBin ?_;first |(refine LOps.ans (AnsL.add rfl rfl ?_) ?_;(focus (constructor <;> omega))))) |(refine kWL ?_;first |(refine WL.seq ?_) |(refine WL.region (by kernel_rfl) ?_) |(refine WL.drawn (id:=6) [0,3,4,5,6,1,2,7,8,9] [1,7,9] [[],[0],[0,1],[],[],[],[],[0,1,3,4,5,6],[0,1,2,3,4,5,6,7],[0,1,2,3,4,5,6,7,8]] (by kernel_rfl) (by kernel_rfl) ?_) |(refine WL.drawn (id:=14) [0,1,2,3,4,5,6,7,8,9,10,11] [7,9,11] [[],[],[],[],[],[],[],[6],[6,7],[1,2,3,4,5,6,7,8],[0,1,2,3,4,5,6,7,8,9],[0,1,2,3,4,5,6,7,8,9,10]] (by kernel_rfl) (by kernel_rfl) ?_) |(refine WL.drawn (id:=21) [0,3,4,5,6,7,1,2,8,9,10] [1,8,10] [[],[0],[0,1],[],[],[],[],[],[0,1,3,4,5,6,7],[0,1,2,3,4,5,6,7,8],[0,1,2,3,4,5,6,7,8,9]] (by kernel_rfl) (by kernel_rfl) ?_) |(refine WL.block ?_) |(refine WL.skip ?_) |(refine WL.ret ?_) |(refine kCond ?_;first |(refine WL.condT rfl ?_) |(refine WL.condF' rfl ?_ ?_;(focus (first |(simp <;> omega)))) |(refine WL.cond rfl (fun h=>?_) (fun h=>?_)))) |(refine kDr ?_;first |(refine LDr.nil ?_) |(refine' LDr.fl (v := .agg _) rfl rfl (AnsL.buildZ tT_ok rfl rfl rfl rfl ?_) ?_;rotate_left 1;(focus ((repeat' first |(exact Fills.nil) |(refine' Fills.cons rfl rfl rfl rfl ?_));done))) |(refine LDr.fl rfl rfl (.ev tT_ok rfl) ?_) |(refine kDLoad rfl ?_;first |(refine LDr.fl rfl rfl (AnsL.loadH tT_ok 2 hh rfl rfl rfl rfl) ?_)) |(refine kDBin rfl ?_;first |(refine LDr.fl rfl rfl (AnsL.add rfl rfl ?_) ?_;(focus (constructor <;> omega)))) |(refine LDr.eff rfl rfl rfl ?_)) |(refine lthen_n ?_) |(refine lthen_r ?_) |(refine lblock_n ?_) |(refine lblock_r ?_) |(refine' LPost.r1 (r := .cell 8 29) (.inl rfl) ?_ ?_;rotate_left 1;(focus (first | exact Res1.cellH 0 tT_ok hh rfl rfl rfl rfl | exact Res1.cellH 1 tT_ok hh rfl rfl rfl rfl | exact Res1.cellH 2 tT_ok hh rfl rfl rfl rfl | exact Res1.cellH 3 tT_ok hh rfl rfl rfl rfl | exact Res1.cellH 4 tT_ok hh rfl rfl rfl rfl | exact Res1.cellH 5 tT_ok hh rfl rfl rfl rfl | exact Res1.cellH 6 tT_ok hh rfl rfl rfl rfl | exact Res1.cellH 7 tT_ok hh rfl rfl rfl rfl | exact Res1.cellHW 0 tT_ok hh rfl rfl rfl rfl | exact Res1.cellHW 1 tT_ok hh rfl rfl rfl rfl | exact Res1.cellHW 2 tT_ok hh rfl rfl rfl rfl | exact Res1.cellHW 3 tT_ok hh rfl rfl rfl rfl | exact Res1.cellHW 4 tT_ok hh rfl rfl rfl rfl | exact Res1.cellHW 5 tT_ok hh rfl rfl rfl rfl | exact Res1.cellHW 6 tT_ok hh rfl rfl rfl rfl | exact Res1.cellHW 7 tT_ok hh rfl rfl rfl rfl))) |(refine And.intro ?_ ?_) |(exact StsL.nil) |(refine StsL.cons ?_ ?_) |(refine StL.fl rfl rfl (.ev tT_ok rfl)) |(refine StL.fl rfl rfl (AnsL.loadH tT_ok 2 hh rfl rfl rfl rfl)) |(refine StL.fl rfl rfl (AnsL.add rfl rfl ?_);(focus (constructor <;> omega)))
   all_goals
     first
     | skip
       replace hh:=hh.nil0
       apply DrwB.fin (y:=(PE.mk _ _ _ ⟨_,_,_⟩ _ _ y.1 [],f2 y.2 (0,0))) (hh:=hh)
       case hv=>rfl
       case hi=>assumption
       case hs =>
         dsimp only [PE.ob,List.cons_append,List.nil_append]
         (repeat' first |(exact Sel.nil) |(exact Sel.refl _) |(refine' Sel.p ?_ ?_;rotate_left 1;(focus (((repeat' first |(exact Pick.here) |(refine' Pick.there ?_));done)))))
         (repeat' first |(exact Sel.refl _) |(refine Sel.drop ?_))
       case hp =>
         have g1:y.1.length≤4:=by have:=hq.1;omega
         have g2:=kids_wgt hq.2
         have g3:=Nat.mul_le_mul_right (w+1) g1
         dsimp only
         rw [PE.wgt_eq]
         simp only [PE.value,PE.kids,PE.sub,wgt_nilP,List.length_nil]
         omega
 replace hp:=hp (by omega)
 repeat' first |(refine kBox ?_ ;first |(refine LOps.boxH hh rfl rfl ?_ ;intro s n hh)) |(refine kAlloc ?_ ;refine LOps.allocH tT_ok hh rfl rfl ?_ ;intro s n hh) |(refine kStore ?_ ;first |(refine LOps.storeH tT_ok 2 hh rfl rfl rfl rfl rfl rfl rfl rfl rfl ?_ ;intro s hh) |(refine LOps.storeH tT_ok 3 hh rfl rfl rfl rfl rfl rfl rfl rfl rfl ?_ ;intro s hh)) |(refine kBsl ?_ ;first |(refine LOps.ans (d:=100) (AnsL.bslF tT_ok rfl rfl rfl rfl rfl rfl rfl rfl rfl) ?_) |(refine' LOps.bslO (d:=90) tT_ok rfl rfl rfl rfl rfl rfl rfl rfl hh ?_ ?_ ?_ ;rotate_left 2 ;(focus ((repeat' first |(exact ConsOL.nil) |(exact ConsO.scal rfl) |(refine' ConsO.op ?_;((repeat' first |(exact Pick.here) |(refine' Pick.there ?_));done)) |(refine' ConsOL.cons ?_ ?_) |(refine' ConsO.agg ?_));done)) ;(focus ((repeat' first |(exact ElsH.of rfl));done)) ;intro s n hh) |(refine' LOps.bslO (d:=104) tT_ok rfl rfl rfl rfl rfl rfl rfl rfl hh ?_ ?_ ?_ ;rotate_left 2 ;(focus ((repeat' first |(exact ConsOL.nil) |(exact ConsO.scal rfl) |(refine' ConsO.op ?_;((repeat' first |(exact Pick.here) |(refine' Pick.there ?_));done)) |(refine' ConsOL.cons ?_ ?_) |(refine' ConsO.agg ?_));done)) ;(focus ((repeat' first |(exact ElsH.of rfl));done)) ;intro s n hh)) |(refine kCallN 59 ?_ ;first |(refine LOps.drawH 0 rfl rfl ok59 hh rfl rfl ?_ (specl1Below_d hb (by omega)) ?_ ;(focus (first | assumption | omega)) ;intro s x i h hq hi hh ;try dsimp only) |(refine LOps.drawH 2 rfl rfl ok59 hh rfl rfl ?_ (specl1Below_d hb (by omega)) ?_ ;(focus (first | assumption | omega)) ;intro s x i h hq hi hh ;try dsimp only)) |(refine kCallN 72 ?_ ;first |(refine LOps.drawH 0 rfl rfl ok72 hh rfl rfl ?_ (specl1Once_d hb (by omega)) ?_ ;(focus (first | assumption | omega)) ;intro s x i h hq hi hh ;try dsimp only)) |(refine kCallN 97 ?_ ;first |(refine LOps.drawB 0 rfl rfl ok97 hh (hk _ _ (by omega)) .nil rfl rfl ?_ ?_ ;(focus (first | assumption | omega)) ;intro s y i h hq hi hh ;try dsimp only [List.cons_append,List.nil_append] at hh)) |(refine kCallN 127 ?_ ;first |(refine LOps.drawB 0 rfl rfl ok127 hh (hp _) .nil rfl rfl ?_ ?_ ;(focus (first | assumption | omega)) ;intro s y i h hq hi hh ;try dsimp only [List.cons_append,List.nil_append] at hh) |(refine LOps.drawB 1 rfl rfl ok127 hh (hp _) .nil rfl rfl ?_ ?_ ;(focus (first | assumption | omega)) ;intro s y i h hq hi hh ;try dsimp only [List.cons_append,List.nil_append] at hh)) |(refine kOps ?_;first |(refine LOps.nil ?_) |(refine' LOps.ans (v := .agg _) (AnsL.buildZ tT_ok rfl rfl rfl rfl ?_) ?_;rotate_left 1;(focus ((repeat' first |(exact Fills.nil) |(refine' Fills.cons rfl rfl rfl rfl ?_));done))) |(refine LOps.ev tT_ok rfl ?_) |(refine kLoad ?_;first |(refine LOps.ans (AnsL.loadH tT_ok 2 hh rfl rfl rfl rfl) ?_)) |(refine kBin ?_;first |(refine LOps.ans (AnsL.add rfl rfl ?_) ?_;(focus (constructor <;> omega))) |(refine LOps.ans (AnsL.sub rfl rfl ?_) ?_;(focus (constructor <;> omega))))) |(refine kWL ?_;first |(refine WL.seq ?_) |(refine WL.region (by kernel_rfl) ?_) |(refine WL.drawn (id:=6) [0,3,4,5,6,1,2,7,8,9] [1,7,9] [[],[0],[0,1],[],[],[],[],[0,1,3,4,5,6],[0,1,2,3,4,5,6,7],[0,1,2,3,4,5,6,7,8]] (by kernel_rfl) (by kernel_rfl) ?_) |(refine WL.drawn (id:=14) [0,1,2,3,4,5,6,7,8,9,10,11] [7,9,11] [[],[],[],[],[],[],[],[6],[6,7],[1,2,3,4,5,6,7,8],[0,1,2,3,4,5,6,7,8,9],[0,1,2,3,4,5,6,7,8,9,10]] (by kernel_rfl) (by kernel_rfl) ?_) |(refine WL.drawn (id:=17) [0,1,2,3,4,5,7,8,9,10,11,12,13,6,14,15,16,17] [6,14,15,17] [[],[],[],[],[],[],[1,2,3,4,5],[],[],[],[],[10],[],[12],[1,2,3,4,5,6,7,8,9,10,11,12,13],[1,2,3,4,5,6,7,8,9,10,11,12,13,14],[0,1,2,3,4,5,6,7,8,9,10,11,12,13,14,15],[0,1,2,3,4,5,6,7,8,9,10,11,12,13,14,15,16]] (by kernel_rfl) (by kernel_rfl) ?_) |(refine WL.drawn (id:=21) [0,3,4,5,6,7,1,2,8,9,10] [1,8,10] [[],[0],[0,1],[],[],[],[],[],[0,1,3,4,5,6,7],[0,1,2,3,4,5,6,7,8],[0,1,2,3,4,5,6,7,8,9]] (by kernel_rfl) (by kernel_rfl) ?_) |(refine WL.block ?_) |(refine WL.skip ?_) |(refine WL.ret ?_) |(refine kCond ?_;first |(refine WL.condT rfl ?_) |(refine WL.condT' rfl ?_ ?_;(focus (first |(simp <;> omega)))) |(refine WL.cond rfl (fun h=>?_) (fun h=>?_)))) |(refine kDr ?_;first |(refine LDr.nil ?_) |(refine' LDr.fl (v := .agg _) rfl rfl (AnsL.buildZ tT_ok rfl rfl rfl rfl ?_) ?_;rotate_left 1;(focus ((repeat' first |(exact Fills.nil) |(refine' Fills.cons rfl rfl rfl rfl ?_));done))) |(refine LDr.fl rfl rfl (.ev tT_ok rfl) ?_) |(refine LDr.fl rfl rfl (AnsL.bslF tT_ok rfl rfl rfl rfl rfl rfl rfl rfl rfl) ?_) |(refine kDLoad rfl ?_;first |(refine LDr.fl rfl rfl (AnsL.loadH tT_ok 2 hh rfl rfl rfl rfl) ?_)) |(refine kDBin rfl ?_;first |(refine LDr.fl rfl rfl (AnsL.add rfl rfl ?_) ?_;(focus (constructor <;> omega))) |(refine LDr.fl rfl rfl (AnsL.sub rfl rfl ?_) ?_;(focus (constructor <;> omega)))) |(refine LDr.eff rfl rfl rfl ?_)) |(refine lthen_n ?_) |(refine lthen_r ?_) |(refine lblock_n ?_) |(refine lblock_r ?_) |(refine' LPost.r1 (r := .cell 8 29) (.inl rfl) ?_ ?_;rotate_left 1;(focus (first | exact Res1.cellH 0 tT_ok hh rfl rfl rfl rfl | exact Res1.cellH 1 tT_ok hh rfl rfl rfl rfl | exact Res1.cellH 2 tT_ok hh rfl rfl rfl rfl | exact Res1.cellH 3 tT_ok hh rfl rfl rfl rfl | exact Res1.cellH 4 tT_ok hh rfl rfl rfl rfl | exact Res1.cellH 5 tT_ok hh rfl rfl rfl rfl | exact Res1.cellH 6 tT_ok hh rfl rfl rfl rfl | exact Res1.cellH 7 tT_ok hh rfl rfl rfl rfl | exact Res1.cellH 8 tT_ok hh rfl rfl rfl rfl | exact Res1.cellH 9 tT_ok hh rfl rfl rfl rfl | exact Res1.cellH 10 tT_ok hh rfl rfl rfl rfl | exact Res1.cellH 11 tT_ok hh rfl rfl rfl rfl | exact Res1.cellHW 0 tT_ok hh rfl rfl rfl rfl | exact Res1.cellHW 1 tT_ok hh rfl rfl rfl rfl | exact Res1.cellHW 2 tT_ok hh rfl rfl rfl rfl | exact Res1.cellHW 3 tT_ok hh rfl rfl rfl rfl | exact Res1.cellHW 4 tT_ok hh rfl rfl rfl rfl | exact Res1.cellHW 5 tT_ok hh rfl rfl rfl rfl | exact Res1.cellHW 6 tT_ok hh rfl rfl rfl rfl | exact Res1.cellHW 7 tT_ok hh rfl rfl rfl rfl | exact Res1.cellHW 8 tT_ok hh rfl rfl rfl rfl | exact Res1.cellHW 9 tT_ok hh rfl rfl rfl rfl | exact Res1.cellHW 10 tT_ok hh rfl rfl rfl rfl | exact Res1.cellHW 11 tT_ok hh rfl rfl rfl rfl))) |(refine And.intro ?_ ?_) |(exact StsL.nil) |(refine StsL.cons ?_ ?_) |(refine StL.fl rfl rfl (.ev tT_ok rfl)) |(refine StL.fl rfl rfl (AnsL.bslF tT_ok rfl rfl rfl rfl rfl rfl rfl rfl rfl)) |(refine StL.fl rfl rfl (AnsL.loadH tT_ok 2 hh rfl rfl rfl rfl)) |(refine StL.fl rfl rfl (AnsL.loadH tT_ok 3 hh rfl rfl rfl rfl)) |(refine StL.fl rfl rfl (AnsL.add rfl rfl ?_);(focus (constructor <;> omega))) |(refine StL.fl rfl rfl (AnsL.sub rfl rfl ?_);(focus (constructor <;> omega)))
 all_goals try simp only [PL.q_eq] at hh
 all_goals
   first
     | skip
       replace hh:=hh.nil0
       apply DrwB.fin (y:=(PE.mk _ _ _ ⟨_,_,_⟩ _ _ y.1 [],f2 y.2 (0,0))) (hh:=hh)
       case hv=>rfl
       case hi=>assumption
       case hs =>
         dsimp only [PE.ob,List.cons_append,List.nil_append]
         (repeat' first |(exact Sel.nil) |(exact Sel.refl _) |(refine' Sel.p ?_ ?_;rotate_left 1;(focus (((repeat' first |(exact Pick.here) |(refine' Pick.there ?_));done)))))
         (repeat' first |(exact Sel.refl _) |(refine Sel.drop ?_))
       case hp =>
         have g1:y.1.length≤4:=by have:=hq.1;omega
         have g2:=kids_wgt hq.2
         have g3:=Nat.mul_le_mul_right (w+1) g1
         dsimp only
         rw [PE.wgt_eq]
         simp only [PE.value,PE.kids,PE.sub,wgt_nilP,List.length_nil]
         omega
     | skip
       replace hh:=hh.nil0
       apply DrwB.fin (y:=(PE.mk _ _ _ ⟨_,_,_⟩ _ _ [] [y.1],f2 (0,0) (1,_))) (hh:=hh)
       case hv=>rfl
       case hi=>assumption
       case hs =>
         dsimp only [PE.ob,List.cons_append,List.nil_append]
         (repeat' first |(exact Sel.nil) |(exact Sel.refl _) |(refine' Sel.p ?_ ?_;rotate_left 1;(focus (((repeat' first |(exact Pick.here) |(refine' Pick.there ?_));done)))))
         (repeat' first |(exact Sel.refl _) |(refine Sel.drop ?_))
       case hp =>
         dsimp only
         rw [PE.wgt_eq]
         simp only [PE.value,PE.kids,PE.sub,wgt_nilE,wgt_oneP,List.length_nil]
         dsimp only at hq
         omega
     | skip
       skip
       apply DrwB.fin (y:=(PE.mk _ _ _ ⟨_,_,_⟩ _ _ _ [y.1],f2 (_,_) (1,_))) (hh:=hh)
       case hv=>rfl
       case hi=>assumption
       case hs =>
         dsimp only [PE.ob,List.cons_append,List.nil_append]
         (repeat' first |(exact Sel.nil) |(exact Sel.refl _) |(refine' Sel.p ?_ ?_;rotate_left 1;(focus (((repeat' first |(exact Pick.here) |(refine' Pick.there ?_));done)))))
         (repeat' first |(exact Sel.refl _) |(refine Sel.drop ?_))
       case hp =>
         rename List PE × Nat × Nat=>y0
         have hq0:y0.1.length=Int.toNat 1∧∀ e∈y0.1,wgt e.v≤w:=by assumption
         have g1:y0.1.length≤4:=by have:=hq0.1;omega
         have g2:=kids_wgt hq0.2
         have g3:=Nat.mul_le_mul_right (w+1) g1
         dsimp only at hq ⊢
         rw [PE.wgt_eq]
         simp only [PE.value,PE.kids,PE.sub,wgt_oneP,List.length_nil]
         omega
end Go.Proofs.Ytolhegocbkckdaa

namespace Go.Proofs.Ytolhegocbkckdaa
open Go
set_option linter.unusedSimpArgs false
set_option linter.unusedVariables false
theorem VCalls.pureLendT {P:Program} {f:FuncId} {vs ds us:List V} {s:S} {H:List BE} (hh:Hold s s.next H) (hrd:RdH H vs ds) (hd:V.plainL us=true) (h:∀ t,VCalls P f ds t (fun v t'=>Own2 (.tup us) v t')):VCalls P f vs (s.ext []) (fun v s'=>v = .tup us∧s'=s.ext []):=by
 have hdat:V.dat (.tup us)=true:=by
   have:=plain_dat (.agg us) hd
   simpa [V.dat] using this
 have hfg:V.forget (.tup us) = .tup us:=by
   have:=plain_forget (.agg us) hd
   simp only [V.forget,V.agg.injEq] at this
   simp only [V.forget,this]
 refine VCalls.pure hdat (VCalls.turn (VCalls.lend2 (hrd.rd hh) h) ?_)
 rintro v s' _ ⟨rfl,rfl⟩
 have k:=VTurn.thaw (s.ext []) (d := .agg us) hd
 exact ⟨.tup us,_,k.tup,hfg,fun l hl=>ext_vars_lt _ _ hl,fun l hl=>ext_fams_lt _ _ hl⟩
theorem rwV_eq (r:List Int):rwV r=ints r:=rfl
theorem specl20Env_w (row:List Int) (env:List (List Int)) (h:env.length≤16777216) (s:S):VCalls Try.prog 120 [ints row,envW env] s (fun v s'=>v=envW (row::env)∧s'=s):=by
 refine LCalls.pure Try.func120 rfl (by kernel_rfl) (by simp [rwV]) ?_
 repeat' first |(refine kOps ?_;first |(refine LOps.nil ?_) |(refine LOps.ev tT_ok rfl ?_) |(refine kBsl ?_;first |(refine LOps.bsl tT_ok rfl rfl rfl rfl rfl rfl rfl rfl rfl rfl rfl ?_)) |(refine kApp ?_;first |(refine LOps.app tT_ok rfl rfl rfl rfl rfl rfl rfl rfl rfl rfl rfl ?_ ?_ (AppB.of ?_ rfl) ?_;(focus (first | rfl));(focus (first | exact Elems.of rfl | exact Elems.map fun _=>rfl | exact PE.els _ (fun _=>rfl) _));(focus (first | omega |(simp;omega)))))) |(refine kWL ?_;first |(refine WL.seq ?_) |(refine WL.region (by kernel_rfl) ?_) |(refine WL.ret ?_)) |(refine lthen_n ?_) |(refine LPost.r1 (r := .tmp 4) (.inl rfl) (Res1.tmp rfl) ?_) |(refine PureR.mk ?_)
 simp [V.forget,V.forgetL_eq,List.map_map,Function.comp_def,rwV,iV,ints]
theorem rowsOf_small (c:Cat) (h:∀ t∈c.tables,t.small) (ts:List Int):(rowsOf c ts).length≤3*ts.length:=by
 induction ts with
 | nil=>simp [rowsOf]
 | cons k ts ih =>
   have e:rowsOf c (k::ts)=(c.tables[k.toNat]?.map Tab.types).getD []++rowsOf c ts:=by simp [rowsOf]
   have e2:((c.tables[k.toNat]?.map Tab.types).getD []).length≤3:=by
     cases hk:c.tables[k.toNat]? with
     | none=>simp
     | some t =>
       have:=(h t (List.mem_of_getElem? hk)).2.1
       simpa [Tab.types] using this
   rw [e,List.length_append,List.length_cons]
   omega
theorem rowTy_small (c:Cat) (h:∀ t∈c.tables,t.small) (ts:List Int):(rowTy c ts).1.length≤3*ts.length:=by
 unfold rowTy
 split
 · exact rowsOf_small c h ts
 · simp
theorem Cat.small_wt {c:Cat} (h1:c.tables.length≤3) (h:∀ t∈c.tables,t.small):c.wt≤100:=by
 have e:∀ l:List Tab,(∀ t∈l,t.small)→slW Tab.wt l≤l.length*23:=by
   intro l hl
   induction l with
   | nil=>exact Nat.le_refl _
   | cons t l ih =>
     have a1:=Tab.small_wt (hl t (by simp))
     have a2:=ih fun x hx=>hl x (by simp [hx])
     have a3:slW Tab.wt (t::l)=l.length+1+(t.wt+sumW Tab.wt l):=by simp [slW,sumW]
     have a4:slW Tab.wt l=l.length+sumW Tab.wt l:=rfl
     simp only [List.length_cons]
     omega
 have a:=e c.tables h
 have m:c.tables.length*23≤3*23:=Nat.mul_le_mul_right _ h1
 show slW Tab.wt c.tables≤100
 omega
end Go.Proofs.Ytolhegocbkckdaa
