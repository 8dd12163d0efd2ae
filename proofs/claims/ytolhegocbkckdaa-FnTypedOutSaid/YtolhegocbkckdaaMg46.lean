/-
  What the laws on types are drawn for.
  The law on typed trees' free columns.
  Copies of plans' trees and plans; maps over their parts.
  Copies of plans' trees by the program and by the reference.
  Own work; no condition.
-/
import Derived.Test.YtolhegocbkckdaaMg45
import Derived.Test.YtolhegocbkckdaaDTyLaw
import Derived.Test.YtolhegocbkckdaaDTyI
import Derived.Test.YtolhegocbkckdaaDTyD
import Derived.Test.YtolhegocbkckdaaMg30
import Derived.Test.YtolhegocbkckdaaDBig
import Derived.Test.YtolhegocbkckdaaDCow
import Derived.Test.YtolhegocbkckdaaMg17
namespace Go.Proofs.Ytolhegocbkckdaa
open Go
set_option linter.unusedSimpArgs false
set_option linter.unusedVariables false
theorem DrwAll.ofS {g:FuncId} {b:V} {α : Type} {f : α → List V} {p : α → Prop} (h:∀ (s:S) (H:List BE),Hold s s.next H→VCalls Try.prog g [b] (s.ext []) (fun v t=>∃ (x : α) (s':S) (vs:List V),p x∧v = .tup vs∧t=s'.ext []∧FinS s' (.agg vs) (.agg (f x)) H)):DrwAll Try.prog g b (fun x => .tup (f x)) p :=
 fun s H hh=>VCalls.frzST (h s H hh)
set_option maxHeartbeats 2000000 in
theorem specDrawTypeIn_d {b:V} (hb:Bytes b):DrwAll Try.prog 25 b (fun x:List Tab × List (List Int) × PE => .tup [catV x.1,envW x.2.1,x.2.2.v]) (fun x=>((0<x.1.length∧x.1.length≤3)∧∀ t∈x.1,t.small)∧(x.2.1.length≤3∧∀ r∈x.2.1,r.length≤2)∧wgt x.2.2.v≤wT 3+1000):=by
 obtain ⟨nz,hn2,hn4,hsz⟩:=specl1Size_v hb
 have hn0:0<nz:=by omega
 refine DrwAll.ofS (f:=fun x:List Tab × List (List Int) × PE=>[catV x.1,envW x.2.1,x.2.2.v]) fun s H hh=>?_
 have hbt:∀ w:PE × (Nat→Nat × Nat),wgt w.1.v≤wT 3→DrwB Try.prog 61 b [PE.ov w] (PE.ob w) PE.ov PE.ob (fun y=>wgt y.1.v≤wgt w.1.v+1000):=fun w h=>specl19Bent_d hb _ w (Nat.lt_succ_self _) (Nat.le_trans h (by decide))
 refine LCalls.body0 Try.func25 rfl (by kernel_rfl) ?_
 repeat' first |(refine kAlloc ?_ ;refine LOps.allocH tT_ok hh rfl rfl ?_ ;intro s n hh) |(refine kStore ?_ ;first |(refine LOps.storeH tT_ok 0 hh rfl rfl rfl rfl rfl rfl rfl rfl rfl ?_ ;intro s hh)) |(refine kCallN 44 ?_ ;refine LOps.drawNew rfl rfl ok44 hh (specl1New_d hb) ?_ ;intro s m h hh) |(refine kCallN 56 ?_ ;first |(refine LOps.drawH 0 rfl rfl ok56 hh rfl rfl ?_ (specl16Right_f hb) ?_ ;(focus (first | assumption | omega)) ;intro s x i h hq hi hh ;try dsimp only)) |(refine kCallN 57 ?_ ;first |(refine LOps.drawH 1 rfl rfl ok57 hh rfl rfl ?_ (specl20Rows_d hb) ?_ ;(focus (first | assumption | omega)) ;intro s x i h hq hi hh ;try dsimp only)) |(refine kOps ?_;first |(refine LOps.nil ?_) |(refine LOps.ev tT_ok rfl ?_)) |(refine kWL ?_;first |(refine WL.seq ?_) |(refine WL.region (by kernel_rfl) ?_)) |(refine lthen_n ?_)
 rename_i r2 _ _ r4 _ _ _ _ _ y0 _ _ hq0 _ _ _ _ _ _
 have hx1:x.length≤3∧∀ r∈x,r.length≤2:=hq
 have hx2:∀ r∈x,r.length≤1000:=fun r hr=>Nat.le_trans (hx1.2 r hr) (by omega)
 obtain ⟨env,rfl⟩:∃ e,e=x:=⟨x,rfl⟩
 clear hq
 refine WL.cutH (fun z:Nat × (PE × (Nat→Nat × Nat)) × Int × Int=>[(2,.ptr r2 0),(4,.ptr r4 0),(5,.ptr m 0),(6,.ptr n 0),(7,envW env),(8,.ptr z.1 0)])
   (fun z => .cell z.1 (PE.ov z.2.1).cells::(PE.ob z.2.1++(.cell m (curC b z.2.2.1 z.2.2.2) :: .cell n [.sl 0 (y0.1.map Tab.toV)] :: .cell r4 [.int .i64 0,.int .i64 0,.bool false,.int .i64 0,.int .i64 0,.str [],.int .i64 0,.int .i64 0,.nilsl,.nilsl] :: .cell r2 [.nilsl]::H)))
   (fun z=>wgt z.2.1.1.v≤wT 3∧0≤z.2.2.1) ?_ (fun z s hI hh=>?_)
 · skip
   repeat' first |(refine kAlloc ?_ ;refine LOps.allocH tT_ok hh rfl rfl ?_ ;intro s n hh) |(refine kStore ?_ ;first |(refine LOps.storeH tT_ok 0 hh rfl rfl rfl rfl rfl rfl rfl rfl rfl ?_ ;intro s hh) |(refine LOps.storeH tT_ok 3 hh rfl rfl rfl rfl rfl rfl rfl rfl rfl ?_ ;intro s hh)) |(refine kCallN 59 ?_ ;first |(refine LOps.drawH 0 rfl rfl ok59 hh rfl rfl ?_ (specl1Below_d hb (by omega)) ?_ ;(focus (first | assumption | omega)) ;intro s x i h hq hi hh ;try dsimp only) |(refine LOps.drawH 1 rfl rfl ok59 hh rfl rfl ?_ (specl1Below_d hb (by omega)) ?_ ;(focus (first | assumption | omega)) ;intro s x i h hq hi hh ;try dsimp only)) |(refine kCallN 58 ?_ ;first |(refine LOps.drawB 0 rfl rfl ok58 hh (specl20Typed_d hb hq0.1 hq0.2 3 _ env _ (by omega) (by omega) (by omega) (by omega) hx2) .nil rfl rfl ?_ ?_ ;(focus (first | assumption | omega)) ;intro s y i h hq hi hh ;try dsimp only [List.cons_append,List.nil_append] at hh) |(refine LOps.drawB 1 rfl rfl ok58 hh (specl20Typed_d hb hq0.1 hq0.2 3 _ env _ (by omega) (by omega) (by omega) (by omega) hx2) .nil rfl rfl ?_ ?_ ;(focus (first | assumption | omega)) ;intro s y i h hq hi hh ;try dsimp only [List.cons_append,List.nil_append] at hh)) |(refine kOps ?_;first |(refine LOps.nil ?_) |(refine kCallN 60 ?_;first |(refine LOps.ans (AnsL.callP rfl rfl rfl (ok60) (hsz _)) ?_))) |(refine kWL ?_;first |(refine WL.drawnO (id:=4) (.fl 0 (.fl 1 (.fl 2 (.fl 3 (.fl 6 (.fl 7 (.ef 4 (.fl 5 (.ef 8 (.ef 9 (.ef 10 (.ef 11 (.ef 12 .done .stop) .stop) (.ef 11 (.ef 10 (.ef 12 .done .stop) .stop) .stop)) (.ef 11 (.ef 9 (.ef 10 (.ef 12 .done .stop) .stop) .stop) .stop)) (.ef 11 (.ef 8 (.ef 9 (.ef 10 (.ef 12 .done .stop) .stop) .stop) .stop) .stop))) (.ef 11 (.ef 4 (.fl 5 (.ef 8 (.ef 9 (.ef 10 (.ef 12 .done .stop) .stop) .stop) .stop)) .stop) .stop)))))))) [4,8,9,10,11,12] [[],[],[],[],[3],[3,4],[],[],[3,4,7],[3,4,6,7,8],[0,1,2,3,4,5,6,7,8,9],[],[0,1,2,3,4,5,6,7,8,9,10,11]] (by kernel_rfl) (by kernel_rfl) ?_)) |(refine kDt ?_;first |(exact LDt.stop) |(refine LDt.done ?_) |(refine LDt.fl rfl (.ev tT_ok rfl) ?_) |(refine LDt.fl rfl (AnsL.loadH tT_ok 1 hh rfl rfl rfl rfl) ?_) |(refine LDt.fl rfl (AnsL.add rfl rfl ?_) ?_;(focus (constructor <;> omega))) |(refine LDt.ef rfl rfl ?_ ?_)) |(refine And.intro ?_ ?_) |(exact StsL.nil) |(refine StsL.cons ?_ ?_) |(refine StL.fl rfl rfl (.ev tT_ok rfl)) |(refine StL.fl rfl rfl (AnsL.loadH tT_ok 1 hh rfl rfl rfl rfl)) |(refine StL.fl rfl rfl (AnsL.loadH tT_ok 2 hh rfl rfl rfl rfl)) |(refine StL.fl rfl rfl (AnsL.loadH tT_ok 4 hh rfl rfl rfl rfl)) |(refine StL.fl rfl rfl (AnsL.add rfl rfl ?_);(focus (constructor <;> omega)))
   all_goals
     refine' CutH.of ((_,_,_,_)) ?_ hh ?_ ?_
     rotate_left 4
     · repeat' first | exact SubL.nil |(refine SubL.mk rfl ?_ ?_) | rfl |(simp [] <;> fail) |(simp [];omega)
     · dsimp only;(repeat' first |(exact Sel.nil) |(exact Sel.refl _) |(refine' Sel.p ?_ ?_;rotate_left 1;(focus (((repeat' first |(exact Pick.here) |(refine' Pick.there ?_));done)))))
     · dsimp only;repeat' first | exact trivial | assumption | omega |(refine And.intro ?_ ?_) | rfl |(simp [] <;> fail)
 obtain ⟨nE,y,i,h⟩:=z
 obtain ⟨hw,hi⟩:=hI
 dsimp only [PE.ob,List.cons_append,List.nil_append] at hw hi hh ⊢
 repeat' first |(refine kStore ?_ ;first |(refine LOps.storeH tT_ok 3 hh rfl rfl rfl rfl rfl rfl rfl rfl rfl ?_ ;intro s hh) |(refine LOps.storeH tT_ok 5 hh rfl rfl rfl rfl rfl rfl rfl rfl rfl ?_ ;intro s hh) |(refine LOps.storeH tT_ok 6 hh rfl rfl rfl rfl rfl rfl rfl rfl rfl ?_ ;intro s hh) |(refine LOps.storeH tT_ok 7 hh rfl rfl rfl rfl rfl rfl rfl rfl rfl ?_ ;intro s hh) |(refine LOps.storeH tT_ok 8 hh rfl rfl rfl rfl rfl rfl rfl rfl rfl ?_ ;intro s hh)) |(refine kCallN 59 ?_ ;first |(refine LOps.drawH 3 rfl rfl ok59 hh rfl rfl ?_ (specl1Below_d hb (by omega)) ?_ ;(focus (first | assumption | omega)) ;intro s x i h hq hi hh ;try dsimp only)) |(refine kCallN 61 ?_ ;first |(refine' LOps.drawB 0 rfl rfl ok61 hh (hbt _ (by assumption)) ?_ ?_ ?_ ?_ ?_ ;rotate_left 4 ;(focus ((repeat' first |(exact Takes.nil) |(apply Takes.p;(focus (((repeat' first |(exact Pick.here) |(refine' Pick.there ?_));done)))));done)) ;(focus rfl) ;(focus rfl) ;(focus (first | assumption | omega)) ;intro s y i h hq hi hh ;try dsimp only [List.cons_append,List.nil_append] at hh)) |(refine kCallN 62 ?_ ;first |(refine LOps.drawB 0 rfl rfl ok62 hh (specl19Expr_d hb 3 _ (by omega) (by omega) (by omega)) .nil rfl rfl ?_ ?_ ;(focus (first | assumption | omega)) ;intro s y i h hq hi hh ;try dsimp only [List.cons_append,List.nil_append] at hh)) |(refine kOps ?_;first |(refine LOps.nil ?_) |(refine LOps.ev tT_ok rfl ?_) |(refine kLoad ?_;first |(refine LOps.ans (AnsL.loadH tT_ok 1 hh rfl rfl rfl rfl) ?_))) |(refine kWL ?_;first |(refine WL.seq ?_) |(refine WL.region (by kernel_rfl) ?_) |(refine WL.drawn (id:=10) [0,1,2,3,4,5] [3,5] [[],[],[],[0],[0,1,3],[0,1,2,3,4]] (by kernel_rfl) (by kernel_rfl) ?_) |(refine WL.block ?_) |(refine WL.skip ?_) |(refine WL.ret ?_) |(refine kCond ?_;first |(refine WL.cond rfl (fun h=>?_) (fun h=>?_)))) |(refine kDr ?_;first |(refine LDr.nil ?_) |(refine LDr.fl rfl rfl (.ev tT_ok rfl) ?_) |(refine kDLoad rfl ?_;first |(refine LDr.fl rfl rfl (AnsL.loadH tT_ok 1 hh rfl rfl rfl rfl) ?_) |(refine LDr.fl rfl rfl (AnsL.loadH tT_ok 3 hh rfl rfl rfl rfl) ?_) |(refine LDr.fl rfl rfl (AnsL.loadH tT_ok 4 hh rfl rfl rfl rfl) ?_) |(refine LDr.fl rfl rfl (AnsL.loadH tT_ok 6 hh rfl rfl rfl rfl) ?_)) |(refine LDr.eff rfl rfl rfl ?_)) |(refine lthen_n ?_) |(refine lblock_n ?_) |(refine' LPost.r3 (r := .cell 2 52) (r' := .tmp 3) (r'' := .cell 4 29) (.inl rfl) ?_ (Res1.tmp rfl) ?_ ?_;rotate_left 2;(focus (first | exact Res1.cellH 0 tT_ok hh rfl rfl rfl rfl | exact Res1.cellH 1 tT_ok hh rfl rfl rfl rfl | exact Res1.cellH 2 tT_ok hh rfl rfl rfl rfl | exact Res1.cellH 3 tT_ok hh rfl rfl rfl rfl | exact Res1.cellH 4 tT_ok hh rfl rfl rfl rfl | exact Res1.cellH 5 tT_ok hh rfl rfl rfl rfl | exact Res1.cellH 6 tT_ok hh rfl rfl rfl rfl | exact Res1.cellH 7 tT_ok hh rfl rfl rfl rfl | exact Res1.cellH 8 tT_ok hh rfl rfl rfl rfl | exact Res1.cellH 9 tT_ok hh rfl rfl rfl rfl | exact Res1.cellH 10 tT_ok hh rfl rfl rfl rfl | exact Res1.cellH 11 tT_ok hh rfl rfl rfl rfl | exact Res1.cellHW 0 tT_ok hh rfl rfl rfl rfl | exact Res1.cellHW 1 tT_ok hh rfl rfl rfl rfl | exact Res1.cellHW 2 tT_ok hh rfl rfl rfl rfl | exact Res1.cellHW 3 tT_ok hh rfl rfl rfl rfl | exact Res1.cellHW 4 tT_ok hh rfl rfl rfl rfl | exact Res1.cellHW 5 tT_ok hh rfl rfl rfl rfl | exact Res1.cellHW 6 tT_ok hh rfl rfl rfl rfl | exact Res1.cellHW 7 tT_ok hh rfl rfl rfl rfl | exact Res1.cellHW 8 tT_ok hh rfl rfl rfl rfl | exact Res1.cellHW 9 tT_ok hh rfl rfl rfl rfl | exact Res1.cellHW 10 tT_ok hh rfl rfl rfl rfl | exact Res1.cellHW 11 tT_ok hh rfl rfl rfl rfl));(focus (first | exact Res1.cellH 0 tT_ok hh rfl rfl rfl rfl | exact Res1.cellH 1 tT_ok hh rfl rfl rfl rfl | exact Res1.cellH 2 tT_ok hh rfl rfl rfl rfl | exact Res1.cellH 3 tT_ok hh rfl rfl rfl rfl | exact Res1.cellH 4 tT_ok hh rfl rfl rfl rfl | exact Res1.cellH 5 tT_ok hh rfl rfl rfl rfl | exact Res1.cellH 6 tT_ok hh rfl rfl rfl rfl | exact Res1.cellH 7 tT_ok hh rfl rfl rfl rfl | exact Res1.cellH 8 tT_ok hh rfl rfl rfl rfl | exact Res1.cellH 9 tT_ok hh rfl rfl rfl rfl | exact Res1.cellH 10 tT_ok hh rfl rfl rfl rfl | exact Res1.cellH 11 tT_ok hh rfl rfl rfl rfl | exact Res1.cellHW 0 tT_ok hh rfl rfl rfl rfl | exact Res1.cellHW 1 tT_ok hh rfl rfl rfl rfl | exact Res1.cellHW 2 tT_ok hh rfl rfl rfl rfl | exact Res1.cellHW 3 tT_ok hh rfl rfl rfl rfl | exact Res1.cellHW 4 tT_ok hh rfl rfl rfl rfl | exact Res1.cellHW 5 tT_ok hh rfl rfl rfl rfl | exact Res1.cellHW 6 tT_ok hh rfl rfl rfl rfl | exact Res1.cellHW 7 tT_ok hh rfl rfl rfl rfl | exact Res1.cellHW 8 tT_ok hh rfl rfl rfl rfl | exact Res1.cellHW 9 tT_ok hh rfl rfl rfl rfl | exact Res1.cellHW 10 tT_ok hh rfl rfl rfl rfl | exact Res1.cellHW 11 tT_ok hh rfl rfl rfl rfl))) |(refine And.intro ?_ ?_) |(exact StsL.nil) |(refine StsL.cons ?_ ?_) |(refine StL.fl rfl rfl (.ev tT_ok rfl)) |(refine StL.fl rfl rfl (AnsL.loadH tT_ok 1 hh rfl rfl rfl rfl)) |(refine StL.fl rfl rfl (AnsL.loadH tT_ok 3 hh rfl rfl rfl rfl))
 all_goals
   refine' ⟨(y0.1,env,y.1),_,_,⟨hq0,hx1,?hw⟩,rfl,rfl,FinS.pl (d:=y.1.v) [catV y0.1,envW env] hh ?hc ?hs ?hp⟩
   case hc =>
     unfold PE.v
     ((repeat' first |(exact ConsOL.nil) |(exact ConsO.scal rfl) |(exact ConsO.slm0) |(refine' ConsO.op ?_;((repeat' first |(exact Pick.here) |(refine' Pick.there ?_));done)) |(refine' ConsOL.cons ?_ ?_) |(refine' ConsO.agg ?_));done)
   case hs =>
     (repeat' first |(exact Sel.nil) |(exact Sel.refl _) |(refine' Sel.p ?_ ?_;rotate_left 1;(focus (((repeat' first |(exact Pick.here) |(refine' Pick.there ?_));done)))))
     all_goals (repeat' first |(exact Sel.refl _) |(refine Sel.drop ?_))
   case hp=>exact plainL_cons (v:=catV y0.1) (plainL_cons (plain_TableS y0.1) rfl) (plainL_cons (v:=envW env) (plain_IntSS env) rfl)
   case hw=>first | exact Nat.le_trans hq (Nat.add_le_add_right hw _) | exact Nat.le_trans hq (by decide) | exact Nat.le_trans hw (by decide)
end Go.Proofs.Ytolhegocbkckdaa

namespace Go.Proofs.Ytolhegocbkckdaa
open Go
set_option linter.unusedSimpArgs false
set_option linter.unusedVariables false
theorem freeTop_len2 (e:PE) (u:Int):(freeTop e u).length≤1+wgt e.v:=by
 unfold freeTop
 split
 · exact PE.col_len freeAt freeAt_len e u
 · simp
theorem Cat.small_wt2 {ts:List Tab} (h:ts.length≤3) (hs:∀ t∈ts,t.small):(⟨ts⟩:Cat).wt≤1048576:=by
 have e:slW Tab.wt ts≤ts.length*23:=by
   clear h
   induction ts with
   | nil=>exact Nat.le_refl _
   | cons c l ih =>
     have a1:=Tab.small_wt (hs c (by simp))
     have a2:=ih fun x hx=>hs x (by simp [hx])
     simp only [slW,sumW,List.length_cons,List.map_cons,List.sum_cons] at a2 ⊢
     omega
 have m:ts.length*23≤3*23:=Nat.mul_le_mul_right _ h
 simp only [Cat.wt]
 omega
abbrev TyArg:Type:=List Tab × List (List Int) × PE
def TyArg.ok (x:TyArg):Prop:=((0<x.1.length∧x.1.length≤3)∧∀ t∈x.1,t.small)∧(x.2.1.length≤3∧∀ r∈x.2.1,r.length≤2)∧wgt x.2.2.v≤2990
theorem rows_ok {env:List (List Int)} (h:∀ r∈env,r.length≤4):RowsOk env:=fun r hr=>Nat.le_trans (h r hr) (by decide)
theorem implTypeIn_q {ts:List Tab} {e:PE} (h1:ts.length≤3) (h2:∀ t∈ts,t.small) (h3:wgt e.v≤2990) (env:List (List Int)) (h4:env.length≤9) (h5:∀ r∈env,r.length≤4) (s:S):VCalls Try.prog 26 [catV ts,envW env,e.v] s (fun v s'=>v=optV (e.ty ⟨ts⟩ env)∧s'=s) :=
 implTypeIn_c ⟨ts⟩ (Cat.small_wt2 h1 h2) e (by omega) env (by omega) (rows_ok h5) s
theorem specTypeIn_q {ts:List Tab} {e:PE} (h1:ts.length≤3) (h2:∀ t∈ts,t.small) (h3:wgt e.v≤2990) (env:List (List Int)) (h4:env.length≤9) (h5:∀ r∈env,r.length≤4) (s:S):VCalls Try.prog 27 [catV ts,envW env,e.v] s (fun v s'=>v=optV (e.ty ⟨ts⟩ env)∧s'=s) :=
 specTypeIn_c ⟨ts⟩ (Cat.small_wt2 h1 h2) e (by omega) env (by omega) (rows_ok h5) s
end Go.Proofs.Ytolhegocbkckdaa

namespace Go.Proofs.Ytolhegocbkckdaa
open Go
set_option linter.unusedSimpArgs false
set_option linter.unusedVariables false
theorem Hold.sv {s:S} {H:List BE} {b n:Nat} {x:PE} (c:Bool) (h:Hold s b (.blk n x.v::H)):Hold s b (.blk n (PE.sv (x,c))::H) :=
 h.reblk (by simp only [PE.sv,PE.v,cv,cvL,Nat.add_zero]) (PE.plains _) (by simp only [PE.sv,PE.v,thw_agg,thwL_int,thwL_str,thwL_bool,thwL_sl,thwL_nil])
def ToG (P:Program) (g:FuncId) (caps:List V) (d d':V):Prop:=∀ t:S,VCalls P g (d::caps) t (fun v t'=>Own2 d' v t')
def OkCaps (caps:List V):Prop:=∀ H,RdH H caps caps
end Go.Proofs.Ytolhegocbkckdaa

namespace Go.Proofs.Ytolhegocbkckdaa
open Go
set_option linter.unusedSimpArgs false
set_option linter.unusedVariables false
theorem OkCaps.nil:OkCaps []:=fun _ => .nil
end Go.Proofs.Ytolhegocbkckdaa
