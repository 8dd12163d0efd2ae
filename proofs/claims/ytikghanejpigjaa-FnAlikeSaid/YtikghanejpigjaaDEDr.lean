/-
 Two queries' trees drawn, the second a copy of the first, or bent, or another. Own work; no condition.
-/
import Derived.Test.YtikghanejpigjaaDECp
import Derived.Test.YtikghanejpigjaaDEBt
import Derived.Test.YtikghanejpigjaaMg45
namespace Go.Proofs.Ytikghanejpigjaa
open Go
set_option linter.unusedSimpArgs false
set_option linter.unusedVariables false
theorem DrwAll.ofST {P:Program} {g:FuncId} {b:V} {α : Type} {f : α → List V} {p : α → Prop} (h:∀ (s:S) (H:List BE),Hold s s.next H→VCalls P g [b] (s.ext []) (fun v t=>∃ (x : α) (s':S) (vs:List V),p x∧v = .tup vs∧t=s'.ext []∧FinS s' (.agg vs) (.agg (f x)) H)):DrwAll P g b (fun x => .tup (f x)) p :=
 fun s H hh=>VCalls.frzST (h s H hh)
set_option maxHeartbeats 2000000 in
theorem specDrawSameExpr_d {b:V} (hb:Bytes b):DrwAll Try.prog 10 b (fun x:EE × EE => .tup [x.1.v,x.2.v]) (fun x=>wgt x.1.v≤2000∧wgt x.2.v≤2000):=by
 have hwE:wE 3=866:=by decide
 refine DrwAll.ofST (f:=fun x:EE × EE=>[x.1.v,x.2.v]) fun s H hh=>?_
 refine LCalls.body0 Try.func10 rfl (by kernel_rfl) ?_
 repeat' first |(refine kAlloc ?_ ;refine LOps.allocH tT_ok hh rfl rfl ?_ ;intro s n hh) |(refine kStore ?_ ;first |(refine LOps.storeH tT_ok 0 hh rfl rfl rfl rfl rfl rfl rfl rfl rfl ?_ ;intro s hh)) |(refine kCallN 24 ?_ ;refine LOps.drawNew rfl rfl ok24 hh (specl1New_d hb) ?_ ;intro s m h hh) |(refine kCallN 26 ?_ ;first |(refine LOps.drawH 0 rfl rfl ok26 hh rfl rfl ?_ (specl1Below_d hb (by omega)) ?_ ;(focus (first | assumption | omega)) ;intro s x i h hq hi hh ;try dsimp only)) |(refine kCallN 25 ?_ ;first |(refine LOps.drawB 0 rfl rfl ok25 hh (specl7Expr_d hb 3 _ (by omega) (by omega) (by omega)) .nil rfl rfl ?_ ?_ ;(focus (first | assumption | omega)) ;intro s y i h hq hi hh ;try dsimp only [List.cons_append,List.nil_append] at hh)) |(refine kOps ?_;first |(refine LOps.nil ?_) |(refine LOps.ev tT_ok rfl ?_)) |(refine kWL ?_;first |(refine WL.seq ?_) |(refine WL.region (id:=0) (by kernel_rfl) ?_) |(refine WL.region (id:=1) (by kernel_rfl) ?_) |(refine WL.region (id:=2) (by kernel_rfl) ?_)) |(refine lthen_n ?_)
 refine WL.frzC (ds:=[.int .i64 y.1.kind,.int .i64 y.1.op,.bool y.1.nt,.int .i64 y.1.value.kind,.int .i64 y.1.value.num,.str y.1.value.text,.str y.1.qual,.str y.1.name,.sl 0 (y.1.kids.map EE.toV),.sl 0 (y.1.sub.map EE.queryV)]) (hh.pack (by ((repeat' first |(exact ConsOL.nil) |(exact ConsO.scal rfl) |(exact ConsO.slm0) |(refine' ConsO.op ?_;((repeat' first |(exact Pick.here) |(refine' Pick.there ?_));done)) |(refine' ConsOL.cons ?_ ?_) |(refine' ConsO.agg ?_));done))) (fun s hh=>?_)
 have hC:=specl7Copy_c y.1 (by have:=hq.1;omega)
 have hqa:=hq
 unfold CpE EE.v at hC
 repeat' first |(refine kAlloc ?_ ;refine LOps.allocH tT_ok hh rfl rfl ?_ ;intro s n hh) |(refine kStore ?_ ;first |(refine LOps.storeH tT_ok 0 hh rfl rfl rfl rfl rfl rfl rfl rfl rfl ?_ ;intro s hh)) |(refine kCallN 26 ?_ ;first |(refine LOps.drawH 4 rfl rfl ok26 hh rfl rfl ?_ (specl1Below_d hb (by omega)) ?_ ;(focus (first | assumption | omega)) ;intro s x i h hq hi hh ;try dsimp only)) |(refine kCallN 27 ?_ ;refine LOps.outB rfl rfl ok27 hh (hC) ?_ ;intro s g hqO hh ;try dsimp only [List.cons_append,List.nil_append] at hh) |(refine kOps ?_;first |(refine LOps.nil ?_) |(refine LOps.ev tT_ok rfl ?_) |(refine kLoad ?_;first |(refine LOps.ans (AnsL.loadH tT_ok 0 hh rfl rfl rfl rfl) ?_))) |(refine kWL ?_;first |(refine WL.seq ?_) |(refine WL.region (by kernel_rfl) ?_) |(refine WL.block ?_)) |(refine lthen_n ?_)
 have hbt:∀ w:EE × (Nat→Nat × Nat),wgt w.1.v≤900→DrwB Try.prog 28 b [EE.ov w] (EE.ob w) EE.ov EE.ob (fun y=>wgt y.1.v≤wgt w.1.v+1000):=fun w h=>specl7Bent_d hb _ w (Nat.lt_succ_self _) (Nat.le_trans h (by decide))
 have hya:wgt y.1.v≤900:=by have:=hqa.1;omega
 refine WL.cutH (fun z:(Nat × Nat × Nat × Nat) × (EE × (Nat→Nat × Nat))=>[(2,.ptr z.1.1 0),(3,.ptr z.1.2.1 0),(5,.ptr z.1.2.2.1 0),(6,.ptr z.1.2.2.2 0)])
   (fun z => .cell z.1.2.2.2 (EE.ov z.2).cells::(EE.ob z.2++(.cell z.1.2.2.1 [.int .i64 y.1.kind,.int .i64 y.1.op,.bool y.1.nt,.int .i64 y.1.value.kind,.int .i64 y.1.value.num,.str y.1.value.text,.str y.1.qual,.str y.1.name,.sl 0 (y.1.kids.map EE.toV),.sl 0 (y.1.sub.map EE.queryV)] :: .cell z.1.2.1 [.int .i64 0,.int .i64 0,.bool false,.int .i64 0,.int .i64 0,.str [],.str [],.str [],.nilsl,.nilsl] :: .cell z.1.1 [.int .i64 0,.int .i64 0,.bool false,.int .i64 0,.int .i64 0,.str [],.str [],.str [],.nilsl,.nilsl]::H))) (fun z=>wgt z.2.1.v≤2000) ?_ (fun z s hI hh=>?_)
 · skip
   repeat' first |(refine kStore ?_ ;first |(refine LOps.storeH tT_ok 3 hh rfl rfl rfl rfl rfl rfl rfl rfl rfl ?_ ;intro s hh)) |(refine kCallN 26 ?_ ;first |(refine LOps.drawH 0 rfl rfl ok26 hh rfl rfl ?_ (specl1Below_d hb (by omega)) ?_ ;(focus (first | assumption | omega)) ;intro s x i h hq hi hh ;try dsimp only)) |(refine kCallN 25 ?_ ;first |(refine LOps.drawB 0 rfl rfl ok25 hh (specl7Expr_d hb 3 _ (by omega) (by omega) (by omega)) .nil rfl rfl ?_ ?_ ;(focus (first | assumption | omega)) ;intro s y i h hq hi hh ;try dsimp only [List.cons_append,List.nil_append] at hh)) |(refine kCallN 28 ?_ ;first |(refine' LOps.drawB 0 rfl rfl ok28 hh (hbt (_,_) (by assumption)) ?_ ?_ ?_ ?_ ?_ ;rotate_left 4 ;(focus ((repeat' first |(exact Takes.nil) |(apply Takes.p;(focus (((repeat' first |(exact Pick.here) |(refine' Pick.there ?_));done)))));done)) ;(focus rfl) ;(focus rfl) ;(focus (first | assumption | omega)) ;intro s y i h hq hi hh ;try dsimp only [List.cons_append,List.nil_append] at hh)) |(refine kOps ?_;first |(refine LOps.nil ?_) |(refine LOps.ev tT_ok rfl ?_) |(refine kLoad ?_;first |(refine LOps.ans (AnsL.loadH tT_ok 1 hh rfl rfl rfl rfl) ?_))) |(refine kWL ?_;first |(refine WL.seq ?_) |(refine WL.region (by kernel_rfl) ?_) |(refine WL.skip ?_) |(refine kCond ?_;first |(refine WL.cond rfl (fun h=>?_) (fun h=>?_)))) |(refine lthen_n ?_)
   · refine' CutH.of ((_, _, _, _), y) ?_ hh ?_ ?_
     rotate_left 4
     · try dsimp only
       repeat' first | exact SubL.nil |(refine SubL.mk rfl ?_ ?_) | rfl |(simp;done)
     · try dsimp only [EE.ob, List.cons_append, List.nil_append]
       (repeat' first |(exact Sel.nil) |(exact Sel.refl _) |(refine' Sel.p ?_ ?_;rotate_left 1;(focus (((repeat' first |(exact Pick.here) |(refine' Pick.there ?_));done)))))
       all_goals (repeat' first |(exact Sel.refl _) |(refine Sel.drop ?_))
     · first | exact Nat.le_trans (by assumption:Rt (wE 3) y.1).1 (by decide) | exact Nat.le_trans (show wgt y.1.v≤900+1000 from Nat.le_trans hq (Nat.add_le_add_right hya _)) (by decide)
   · refine' CutH.of ((_, _, _, _), y) ?_ hh ?_ ?_
     rotate_left 4
     · try dsimp only
       repeat' first | exact SubL.nil |(refine SubL.mk rfl ?_ ?_) | rfl |(simp;done)
     · try dsimp only [EE.ob, List.cons_append, List.nil_append]
       (repeat' first |(exact Sel.nil) |(exact Sel.refl _) |(refine' Sel.p ?_ ?_;rotate_left 1;(focus (((repeat' first |(exact Pick.here) |(refine' Pick.there ?_));done)))))
       all_goals (repeat' first |(exact Sel.refl _) |(refine Sel.drop ?_))
     · first | exact Nat.le_trans (by assumption:Rt (wE 3) y.1).1 (by decide) | exact Nat.le_trans (show wgt y.1.v≤900+1000 from Nat.le_trans hq (Nat.add_le_add_right hya _)) (by decide)
   · refine' CutH.of ((_, _, _, _), (y.1, g)) ?_ hh ?_ ?_
     rotate_left 4
     · try dsimp only
       repeat' first | exact SubL.nil |(refine SubL.mk rfl ?_ ?_) | rfl |(simp;done)
     · try dsimp only [EE.ob, List.cons_append, List.nil_append]
       (repeat' first |(exact Sel.nil) |(exact Sel.refl _) |(refine' Sel.p ?_ ?_;rotate_left 1;(focus (((repeat' first |(exact Pick.here) |(refine' Pick.there ?_));done)))))
       all_goals (repeat' first |(exact Sel.refl _) |(refine Sel.drop ?_))
     · exact Nat.le_trans hya (by decide)
 obtain ⟨⟨r2,r3,na,nb⟩,z⟩:=z
 dsimp only [EE.ob,List.cons_append,List.nil_append] at hI hh ⊢
 repeat' first |(refine kStore ?_ ;first |(refine LOps.storeH tT_ok 4 hh rfl rfl rfl rfl rfl rfl rfl rfl rfl ?_ ;intro s hh) |(refine LOps.storeH tT_ok 5 hh rfl rfl rfl rfl rfl rfl rfl rfl rfl ?_ ;intro s hh)) |(refine kOps ?_;first |(refine LOps.nil ?_)) |(refine kWL ?_;first |(refine WL.seq ?_) |(refine WL.drawn (id:=9) [0,1,2,3] [2,3] [[],[],[0],[0,1,2]] (by kernel_rfl) (by kernel_rfl) ?_) |(refine WL.ret ?_)) |(refine kDr ?_;first |(refine LDr.nil ?_) |(refine kDLoad rfl ?_;first |(refine LDr.fl rfl rfl (AnsL.loadH tT_ok 0 hh rfl rfl rfl rfl) ?_) |(refine LDr.fl rfl rfl (AnsL.loadH tT_ok 3 hh rfl rfl rfl rfl) ?_)) |(refine LDr.eff rfl rfl rfl ?_)) |(refine lthen_n ?_) |(refine lblock_n ?_) |(refine' LPost.r2 (r := .cell 2 37) (r' := .cell 3 37) (.inl rfl) ?_ ?_ ?_;rotate_left 2;(focus (first |(exact Res1.cellH 5 tT_ok hh rfl rfl rfl rfl)));(focus (first |(exact Res1.cellH 4 tT_ok hh rfl rfl rfl rfl)))) |(refine And.intro ?_ ?_) |(exact StsL.nil) |(refine StsL.cons ?_ ?_) |(refine StL.fl rfl rfl (AnsL.loadH tT_ok 0 hh rfl rfl rfl rfl))
 all_goals
   refine' ⟨(y.1,z.1),_,_,⟨Nat.le_trans hya (by decide),hI⟩,rfl,rfl,FinS.pl (d:=z.1.v) [y.1.v] hh ?hc ?hs ?hp⟩
   case hc =>
     unfold EE.v
     ((repeat' first |(exact ConsOL.nil) |(exact ConsO.scal rfl) |(exact ConsO.slm0) |(refine' ConsO.op ?_;((repeat' first |(exact Pick.here) |(refine' Pick.there ?_));done)) |(refine' ConsOL.cons ?_ ?_) |(refine' ConsO.agg ?_));done)
   case hs =>
     (repeat' first |(exact Sel.nil) |(exact Sel.refl _) |(refine' Sel.p ?_ ?_;rotate_left 1;(focus (((repeat' first |(exact Pick.here) |(refine' Pick.there ?_));done)))))
     all_goals (repeat' first |(exact Sel.refl _) |(refine Sel.drop ?_))
   case hp=>exact plainL_cons (v:=y.1.v) (EE.plainv _) rfl
end Go.Proofs.Ytikghanejpigjaa
