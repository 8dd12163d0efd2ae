/-
 Plans' trees and plans drawn, in memory of one's own. Own work; no condition.
-/
import Derived.Test.YtolhegocbkckdaaVCap
import Derived.Test.YtolhegocbkckdaaDBig
import Derived.Test.YtolhegocbkckdaaMg12
namespace Go.Proofs.Ytolhegocbkckdaa
open Go
set_option linter.unusedSimpArgs false
set_option linter.unusedVariables false
theorem Val.agg_eq (a b:Int) (c:List UInt8):V.agg [.int .i64 a,.int .i64 b,.str c]=Val.toV ⟨a,b,c⟩:=rfl
def strLe (n:Nat):V→Bool
 | .str x=>decide (x.length≤n)
 | _=>false
theorem pick_len {x:List UInt8} {vs:List V} {n:Nat} (h:V.str x∈vs) (ha:vs.all (strLe n)=true):x.length≤n:=by
 have:=List.all_eq_true.1 ha _ h
 simpa [strLe] using this
theorem specIntValue_v (n:Int) (s:S):VCalls Try.prog 147 [.int .i64 n] s (fun v s'=>v = .agg [.int .i64 1,.int .i64 n,.str []]∧s'=s):=by
 refine LCalls.pure Try.func147 rfl (by kernel_rfl) (by simp) ?_
 repeat' first |(refine kOps ?_;first |(refine LOps.nil ?_) |(refine kStore ?_;refine LOps.storeP tT_ok rfl rfl rfl rfl rfl rfl rfl rfl rfl ?_) |(refine LOps.ev tT_ok rfl ?_) |(refine kAlloc ?_;refine LOps.alloc tT_ok rfl rfl rfl rfl ?_)) |(refine kWL ?_;first |(refine WL.seq ?_) |(refine WL.region (by kernel_rfl) ?_) |(refine WL.ret ?_)) |(refine lthen_n ?_) |(refine LPost.r1 (r := .cell 2 25) (.inl rfl) (Res1.cell tT_ok rfl rfl rfl rfl) ?_) |(refine PureR.mk ?_)
 rfl
theorem specTextValue_v (t:List UInt8) (s:S):VCalls Try.prog 145 [.str t] s (fun v s'=>v = .agg [.int .i64 2,.int .i64 0,.str t]∧s'=s):=by
 refine LCalls.pure Try.func145 rfl (by kernel_rfl) (by simp) ?_
 repeat' first |(refine kOps ?_;first |(refine LOps.nil ?_) |(refine kStore ?_;refine LOps.storeP tT_ok rfl rfl rfl rfl rfl rfl rfl rfl rfl ?_) |(refine LOps.ev tT_ok rfl ?_) |(refine kAlloc ?_;refine LOps.alloc tT_ok rfl rfl rfl rfl ?_)) |(refine kWL ?_;first |(refine WL.seq ?_) |(refine WL.region (by kernel_rfl) ?_) |(refine WL.ret ?_)) |(refine lthen_n ?_) |(refine LPost.r1 (r := .cell 2 25) (.inl rfl) (Res1.cell tT_ok rfl rfl rfl rfl) ?_) |(refine PureR.mk ?_)
 rfl
theorem specBoolValue_v (b:Bool) (s:S):VCalls Try.prog 146 [.bool b] s (fun v s'=>v = .agg [.int .i64 3,.int .i64 (if b then 1 else 0),.str []]∧s'=s):=by
 cases b
 all_goals
   refine LCalls.pure Try.func146 rfl (by kernel_rfl) (by simp) ?_
   repeat' first |(refine kOps ?_;first |(refine LOps.nil ?_) |(refine kStore ?_;refine LOps.storeP tT_ok rfl rfl rfl rfl rfl rfl rfl rfl rfl ?_) |(refine LOps.ev tT_ok rfl ?_) |(refine kAlloc ?_;refine LOps.alloc tT_ok rfl rfl rfl rfl ?_)) |(refine kWL ?_;first |(refine WL.seq ?_) |(refine WL.region (by kernel_rfl) ?_) |(refine WL.skip ?_) |(refine WL.ret ?_) |(refine kCond ?_;first |(refine WL.condT rfl ?_) |(refine WL.condF rfl ?_))) |(refine lthen_n ?_) |(refine lthen_r ?_) |(refine LPost.r1 (r := .cell 2 25) (.inl rfl) (Res1.cell tT_ok rfl rfl rfl rfl) ?_) |(refine PureR.mk ?_)
   rfl
theorem specl5Right_d {b:V} (hb:Bytes b):Drw Try.prog 128 b [] Val.toV (fun x=>x.text.length≤4):=by
 intro s H l i h hi hh
 refine LCalls.body0 Try.func128 rfl (by kernel_rfl) ?_
 repeat' first |(refine kAlloc ?_ ;refine LOps.allocH tT_ok hh rfl rfl ?_ ;intro s n hh) |(refine kStore ?_ ;first |(refine LOps.storeH tT_ok 1 hh rfl rfl rfl rfl rfl rfl rfl rfl rfl ?_ ;intro s hh) |(refine LOps.storeH tT_ok 2 hh rfl rfl rfl rfl rfl rfl rfl rfl rfl ?_ ;intro s hh)) |(refine kBsl ?_ ;refine' LOps.bslH tT_ok rfl rfl rfl rfl rfl rfl rfl rfl hh ?_ ?_ ?_ ;rotate_left 2 ;(focus ((repeat' first |(exact ConsL.pls rfl rfl));done)) ;(focus ((repeat' first |(exact ElsH.of rfl));done)) ;intro s n hh) |(refine kCallN 59 ?_ ;first |(refine LOps.drawH 0 rfl rfl ok59 hh rfl rfl ?_ (specl1Below_d hb (by omega)) ?_ ;(focus (first | assumption | omega)) ;intro s x i h hq hi hh ;try dsimp only) |(refine LOps.drawH 1 rfl rfl ok59 hh rfl rfl ?_ (specl1Below_d hb (by omega)) ?_ ;(focus (first | assumption | omega)) ;intro s x i h hq hi hh ;try dsimp only)) |(refine kCallN 92 ?_ ;first |(refine LOps.drawH 1 rfl rfl ok92 hh rfl rfl ?_ (specl1Pick_d hb rfl (by simp)) ?_ ;(focus (first | assumption | omega)) ;intro s x i h hq hi hh ;try dsimp only)) |(refine kCallN 72 ?_ ;first |(refine LOps.drawH 0 rfl rfl ok72 hh rfl rfl ?_ (specl1Once_d hb (by omega)) ?_ ;(focus (first | assumption | omega)) ;intro s x i h hq hi hh ;try dsimp only)) |(refine kCallN 87 ?_ ;first |(refine LOps.drawH 0 rfl rfl ok87 hh rfl rfl ?_ (specl1Whole_d hb) ?_ ;(focus (first | assumption | omega)) ;intro s x i h hq hi hh ;try dsimp only)) |(refine kOps ?_;first |(refine LOps.nil ?_) |(refine LOps.ev tT_ok rfl ?_) |(refine kBin ?_;first |(refine LOps.ans (AnsL.sub rfl rfl ?_) ?_;(focus (constructor <;> omega)))) |(refine kCallN 145 ?_;first |(refine LOps.ans (AnsL.callP rfl rfl rfl (ok145) (specTextValue_v _ _)) ?_)) |(refine kCallN 146 ?_;first |(refine LOps.ans (AnsL.callP rfl rfl rfl (ok146) (specBoolValue_v _ _)) ?_)) |(refine kCallN 147 ?_;first |(refine LOps.ans (AnsL.callP rfl rfl rfl (ok147) (specIntValue_v _ _)) ?_))) |(refine kWL ?_;first |(refine WL.seq ?_) |(refine WL.region (by kernel_rfl) ?_) |(refine WL.block ?_) |(refine WL.skip ?_) |(refine WL.ret ?_) |(refine kCond ?_;first |(refine WL.cond rfl (fun h=>?_) (fun h=>?_)))) |(refine lthen_n ?_) |(refine lthen_r ?_) |(refine lblock_n ?_) |(refine lblock_r ?_) |(refine' LPost.r1 (r := .cell 2 25) (.inl rfl) ?_ ?_;rotate_left 1;(focus (first | exact Res1.cellH 0 tT_ok hh rfl rfl rfl rfl | exact Res1.cellH 1 tT_ok hh rfl rfl rfl rfl | exact Res1.cellH 2 tT_ok hh rfl rfl rfl rfl | exact Res1.cellH 3 tT_ok hh rfl rfl rfl rfl | exact Res1.cellH 4 tT_ok hh rfl rfl rfl rfl | exact Res1.cellH 5 tT_ok hh rfl rfl rfl rfl | exact Res1.cellH 6 tT_ok hh rfl rfl rfl rfl | exact Res1.cellH 7 tT_ok hh rfl rfl rfl rfl | exact Res1.cellHW 0 tT_ok hh rfl rfl rfl rfl | exact Res1.cellHW 1 tT_ok hh rfl rfl rfl rfl | exact Res1.cellHW 2 tT_ok hh rfl rfl rfl rfl | exact Res1.cellHW 3 tT_ok hh rfl rfl rfl rfl | exact Res1.cellHW 4 tT_ok hh rfl rfl rfl rfl | exact Res1.cellHW 5 tT_ok hh rfl rfl rfl rfl | exact Res1.cellHW 6 tT_ok hh rfl rfl rfl rfl | exact Res1.cellHW 7 tT_ok hh rfl rfl rfl rfl)))
 all_goals
   apply Drw.fin (x:=⟨_,_,_⟩) (hh:=hh)
   case hv=>first | exact Val.agg_eq _ _ _ | rfl
   case hs=>(first |(refine Sel.cons 0 rfl rfl ?_) |(refine Sel.cons 1 rfl rfl ?_) |(refine Sel.cons 2 rfl rfl ?_) |(refine Sel.cons 3 rfl rfl ?_) |(refine Sel.cons 4 rfl rfl ?_) |(refine Sel.cons 5 rfl rfl ?_) |(refine Sel.cons 6 rfl rfl ?_) |(refine Sel.cons 7 rfl rfl ?_));(repeat' first |(exact Sel.refl _) |(refine Sel.drop ?_))
   case hi=>first | assumption | omega |(simp;omega)
   case hp=>first |(simp;done) |(exact pick_len (by assumption) rfl)
theorem specl7Value_d {b:V} (hb:Bytes b):Drw Try.prog 101 b [] Val.toV (fun x=>x.text.length≤4):=by
 intro s H l i h hi hh
 refine LCalls.body0 Try.func101 rfl (by kernel_rfl) ?_
 repeat' first |(refine kAlloc ?_ ;refine LOps.allocH tT_ok hh rfl rfl ?_ ;intro s n hh) |(refine kStore ?_ ;first |(refine LOps.storeH tT_ok 0 hh rfl rfl rfl rfl rfl rfl rfl rfl rfl ?_ ;intro s hh) |(refine LOps.storeH tT_ok 2 hh rfl rfl rfl rfl rfl rfl rfl rfl rfl ?_ ;intro s hh)) |(refine kCallN 128 ?_ ;first |(refine LOps.drawH 1 rfl rfl ok128 hh rfl rfl ?_ (specl5Right_d hb) ?_ ;(focus (first | assumption | omega)) ;intro s x i h hq hi hh ;try dsimp only)) |(refine kOps ?_;first |(refine LOps.nil ?_) |(refine kG ?_;first |(refine LOps.gT rfl rfl rfl ?_) |(refine LOps.gF rfl rfl rfl ?_) |(refine LOps.gC rfl rfl rfl (fun h=>?_) (fun h=>?_))) |(refine LOps.ev tT_ok rfl ?_) |(refine kLoad ?_;first |(refine LOps.ans (AnsL.loadH tT_ok 0 hh rfl rfl rfl rfl) ?_))) |(refine kWL ?_;first |(refine WL.seq ?_) |(refine WL.region (by kernel_rfl) ?_) |(refine WL.skip ?_) |(refine WL.ret ?_) |(refine kCond ?_;first |(refine WL.condF rfl ?_) |(refine WL.cond rfl (fun h=>?_) (fun h=>?_)))) |(refine lthen_n ?_) |(refine' LPost.r1 (r := .cell 2 25) (.inl rfl) ?_ ?_;rotate_left 1;(focus (first | exact Res1.cellH 0 tT_ok hh rfl rfl rfl rfl | exact Res1.cellH 1 tT_ok hh rfl rfl rfl rfl | exact Res1.cellH 2 tT_ok hh rfl rfl rfl rfl | exact Res1.cellH 3 tT_ok hh rfl rfl rfl rfl | exact Res1.cellH 4 tT_ok hh rfl rfl rfl rfl | exact Res1.cellH 5 tT_ok hh rfl rfl rfl rfl | exact Res1.cellH 6 tT_ok hh rfl rfl rfl rfl | exact Res1.cellH 7 tT_ok hh rfl rfl rfl rfl | exact Res1.cellHW 0 tT_ok hh rfl rfl rfl rfl | exact Res1.cellHW 1 tT_ok hh rfl rfl rfl rfl | exact Res1.cellHW 2 tT_ok hh rfl rfl rfl rfl | exact Res1.cellHW 3 tT_ok hh rfl rfl rfl rfl | exact Res1.cellHW 4 tT_ok hh rfl rfl rfl rfl | exact Res1.cellHW 5 tT_ok hh rfl rfl rfl rfl | exact Res1.cellHW 6 tT_ok hh rfl rfl rfl rfl | exact Res1.cellHW 7 tT_ok hh rfl rfl rfl rfl)))
 all_goals
   apply Drw.fin (x:=⟨_,_,_⟩) (hh:=hh)
   case hv=>first | exact Val.agg_eq _ _ _ | rfl
   case hs=>(first |(refine Sel.cons 0 rfl rfl ?_) |(refine Sel.cons 1 rfl rfl ?_) |(refine Sel.cons 2 rfl rfl ?_) |(refine Sel.cons 3 rfl rfl ?_) |(refine Sel.cons 4 rfl rfl ?_) |(refine Sel.cons 5 rfl rfl ?_) |(refine Sel.cons 6 rfl rfl ?_) |(refine Sel.cons 7 rfl rfl ?_));(repeat' first |(exact Sel.refl _) |(refine Sel.drop ?_))
   case hi=>first | assumption | omega |(simp;omega)
   case hp=>assumption
theorem specl2Name_d {b:V} (hb:Bytes b):Drw Try.prog 93 b [] V.str (fun x=>x.length≤6):=by
 intro s H l i h hi hh
 refine LCalls.body0 Try.func93 rfl (by kernel_rfl) ?_
 repeat' first |(refine kBsl ?_ ;refine' LOps.bslH tT_ok rfl rfl rfl rfl rfl rfl rfl rfl hh ?_ ?_ ?_ ;rotate_left 2 ;(focus ((repeat' first |(exact ConsL.pls rfl rfl));done)) ;(focus ((repeat' first |(exact ElsH.of rfl));done)) ;intro s n hh) |(refine kCallN 92 ?_ ;first |(refine LOps.drawH 1 rfl rfl ok92 hh rfl rfl ?_ (specl1Pick_d hb rfl (by simp)) ?_ ;(focus (first | assumption | omega)) ;intro s x i h hq hi hh ;try dsimp only)) |(refine kCallN 72 ?_ ;first |(refine LOps.drawH 0 rfl rfl ok72 hh rfl rfl ?_ (specl1Once_d hb (by omega)) ?_ ;(focus (first | assumption | omega)) ;intro s x i h hq hi hh ;try dsimp only)) |(refine kOps ?_;first |(refine LOps.nil ?_) |(refine LOps.ev tT_ok rfl ?_)) |(refine kWL ?_;first |(refine WL.seq ?_) |(refine WL.region (by kernel_rfl) ?_) |(refine WL.skip ?_) |(refine WL.ret ?_) |(refine kCond ?_;first |(refine WL.cond rfl (fun h=>?_) (fun h=>?_)))) |(refine lthen_n ?_) |(refine lthen_r ?_) |(refine LPost.r1 (r := .tmp 2) (.inl rfl) (Res1.tmp rfl) ?_)
 all_goals
   apply Drw.fin (hh:=hh)
   case hv=>first | exact Val.agg_eq _ _ _ | rfl
   case hs=>(first |(refine Sel.cons 0 rfl rfl ?_) |(refine Sel.cons 1 rfl rfl ?_) |(refine Sel.cons 2 rfl rfl ?_) |(refine Sel.cons 3 rfl rfl ?_) |(refine Sel.cons 4 rfl rfl ?_) |(refine Sel.cons 5 rfl rfl ?_) |(refine Sel.cons 6 rfl rfl ?_) |(refine Sel.cons 7 rfl rfl ?_));(repeat' first |(exact Sel.refl _) |(refine Sel.drop ?_))
   case hi=>first | assumption | omega |(simp;omega)
   case hp=>exact pick_len (by assumption) rfl
theorem PE.q_eq (x:PE):V.agg [.int .i64 x.kind,.int .i64 x.op,.bool x.nt,.int .i64 x.value.kind,.int .i64 x.value.num,.str x.value.text,.int .i64 x.up,.int .i64 x.pos,.sl 0 (x.kids.map PE.toV),.sl 0 (x.sub.map PE.planV)]=x.toV:=(PE.toV_eq x).symm
theorem PE.snoc (es:List PE) (x:PE):es.map PE.toV++[V.agg [.int .i64 x.kind,.int .i64 x.op,.bool x.nt,.int .i64 x.value.kind,.int .i64 x.value.num,.str x.value.text,.int .i64 x.up,.int .i64 x.pos,.sl 0 (x.kids.map PE.toV),.sl 0 (x.sub.map PE.planV)]]=(es++[x]).map PE.toV:=by
 rw [PE.q_eq,List.map_append,List.map_cons,List.map_nil]
theorem wgt_sl_le {α : Type} {f : α → V} {c:Nat}:∀ l:List α,(∀ x∈l,wgt (f x)≤c)→wgt (.sl 0 (l.map f))≤l.length*(c+1)
 | [],_=>by simp [wgt,wgtL]
 | x::l,h=>by
   have h1:=h x (by simp)
   have h2:=wgt_sl_le l fun y hy=>h y (by simp [hy])
   simp only [List.map_cons,wgt,wgtL,List.length_cons,List.length_map,Nat.add_mul] at h2 ⊢
   omega
def f2 (a b:Nat × Nat):Nat→Nat × Nat
 | 0=>a
 | _=>b
abbrev PE.ov (w:PE × (Nat→Nat × Nat)):V := .agg [.int .i64 w.1.kind,.int .i64 w.1.op,.bool w.1.nt,.int .i64 w.1.value.kind,.int .i64 w.1.value.num,.str w.1.value.text,.int .i64 w.1.up,.int .i64 w.1.pos,.slm (.is (w.2 0).1) (w.2 0).2 0 w.1.kids.length,.slm (.is (w.2 1).1) (w.2 1).2 0 w.1.sub.length]
abbrev PE.ob (w:PE × (Nat→Nat × Nat)):List BE:=[.own (.slm (.is (w.2 0).1) (w.2 0).2 0 w.1.kids.length) (.sl 0 (w.1.kids.map PE.toV)),.own (.slm (.is (w.2 1).1) (w.2 1).2 0 w.1.sub.length) (.sl 0 (w.1.sub.map PE.planV))]
abbrev PL.ov (w:PL × (Nat→Nat × Nat)):V := .agg [.slm (.is (w.2 0).1) (w.2 0).2 0 w.1.tables.length,.slm (.is (w.2 1).1) (w.2 1).2 0 w.1.on.length,.slm (.is (w.2 2).1) (w.2 2).2 0 w.1.wher.length,.slm (.is (w.2 3).1) (w.2 3).2 0 w.1.order.length,.slm (.is (w.2 4).1) (w.2 4).2 0 w.1.items.length,.slm (.is (w.2 5).1) (w.2 5).2 0 w.1.names.length,.bool w.1.distinct,.int .i64 w.1.limit]
abbrev PL.ob (w:PL × (Nat→Nat × Nat)):List BE:=[.own (.slm (.is (w.2 0).1) (w.2 0).2 0 w.1.tables.length) (.sl 0 (w.1.tables.map iV)),.own (.slm (.is (w.2 1).1) (w.2 1).2 0 w.1.on.length) (.sl 0 (w.1.on.map PE.vS)),.own (.slm (.is (w.2 2).1) (w.2 2).2 0 w.1.wher.length) (.sl 0 (w.1.wher.map PE.toV)),
 .own (.slm (.is (w.2 3).1) (w.2 3).2 0 w.1.order.length) (.sl 0 (w.1.order.map PE.sv)),.own (.slm (.is (w.2 4).1) (w.2 4).2 0 w.1.items.length) (.sl 0 (w.1.items.map PE.toV)),.own (.slm (.is (w.2 5).1) (w.2 5).2 0 w.1.names.length) (.sl 0 (w.1.names.map sV))]
abbrev PE.D (P:Program) (g:FuncId) (b:V) (args:List V) (p:PE→Prop):Prop:=DrwB P g b args [] PE.ov PE.ob (fun w=>p w.1)
abbrev PL.D (P:Program) (g:FuncId) (b:V) (args:List V) (p:PL→Prop):Prop:=DrwB P g b args [] PL.ov PL.ob (fun w=>p w.1)
abbrev PE.KD (P:Program) (g:FuncId) (b:V) (args:List V) (p:List PE→Prop):Prop:=DrwB P g b args [] (fun w:List PE × Nat × Nat => .slm (.is w.2.1) w.2.2 0 w.1.length) (fun w=>[.own (.slm (.is w.2.1) w.2.2 0 w.1.length) (.sl 0 (w.1.map PE.toV))]) (fun w=>p w.1)
theorem specl19Kids_d {b:V} {w:Nat} {deep m:Int} (he:PE.D Try.prog 62 b [.int .i64 (deep - 1)] (fun e=>wgt e.v≤w)) (hd:0≤deep∧deep≤100) (hm:0≤m∧m≤5):PE.KD Try.prog 102 b [.int .i64 deep,.int .i64 m] (fun es=>es.length=m.toNat∧∀ e∈es,wgt e.v≤w):=by
 intro s H l i h hi hh
 refine LCalls.body0 Try.func102 rfl (by kernel_rfl) ?_
 replace hh:Hold s s.next (.cell l (curC b i h)::H):=hh
 repeat' first |(refine kBsl ?_ ;first |(refine LOps.ans (AnsL.bslN tT_ok rfl rfl rfl rfl rfl) ?_)) |(refine kOps ?_;first |(refine LOps.nil ?_) |(refine LOps.ev tT_ok rfl ?_)) |(refine kWL ?_;first |(refine WL.seq ?_) |(refine WL.region (by kernel_rfl) ?_) |(refine WL.block ?_)) |(refine lthen_n ?_)
 replace hh:=hh.nil0
 refine WL.loopH (fun y:(List PE × Nat × Nat) × Int × Int=>(m - y.1.1.length).toNat) (fun y=>[(0,.ptr l 0),(1,.int .i64 deep),(2,.int .i64 m),(7,.slm (.is y.1.2.1) y.1.2.2 0 y.1.1.length),(8,.int .i64 (y.1.1.length:Int))])
   (fun y => .own (.slm (.is y.1.2.1) y.1.2.2 0 y.1.1.length) (.sl 0 (y.1.1.map PE.toV)) :: .cell l (curC b y.2.1 y.2.2)::H)
   (fun y=>((y.1.1.length:Int)≤m∧∀ e∈y.1.1,wgt e.v≤w)∧0≤y.2.1) (([],0,0),i,h) ⟨⟨by simp;omega,by simp⟩,hi⟩ ⟨rfl,rfl,rfl,rfl,rfl,trivial⟩ hh (Sel.refl _) (fun y s hI hh=>?_)
 obtain ⟨⟨es,c0,l0⟩,i,h⟩:=y
 obtain ⟨⟨hI,hwI⟩,hi⟩:=hI
 dsimp only at hI hwI hi hh ⊢
 by_cases hlt:(es.length:Int)<m
 · skip
   repeat' first |(refine kBsl ?_ ;first |(refine LOps.ans (AnsL.bslE tT_ok rfl rfl rfl rfl rfl rfl rfl rfl ?_) ?_ ;(focus ((repeat' first |(exact ElsH.of rfl));done)))) |(refine kApp ?_ ;first |(refine' LOps.appW tT_ok 3 rfl rfl rfl rfl rfl rfl rfl rfl rfl rfl hh ?_ ?_ ?_ (AppB.of ?_ rfl) ?_ ;rotate_left 2 ;(focus (first |(intro x hx;obtain ⟨y,_,rfl⟩:=List.mem_map.1 hx;first | rfl | exact PE.cells_len _ | exact PE.planV_len _))) ;(focus ((repeat' first |(exact ConsOL.nil) |(exact ConsO.scal rfl) |(refine' ConsO.op ?_;((repeat' first |(exact Pick.here) |(refine' Pick.there ?_));done)) |(refine' ConsOL.cons ?_ ?_) |(refine' ConsO.agg ?_));done)) ;(focus ((repeat' first |(exact Elems.of rfl));done)) ;(focus (first | omega |(simp ;omega))) ;intro s c n hh)) |(refine kCallN 62 ?_ ;first |(refine LOps.drawB 1 rfl rfl ok62 hh (he) .nil rfl rfl ?_ ?_ ;(focus (first | assumption | omega)) ;intro s y i h hq hi hh ;try dsimp only [List.cons_append,List.nil_append] at hh)) |(refine kOps ?_;first |(refine LOps.nil ?_) |(refine LOps.ev tT_ok rfl ?_) |(refine kBin ?_;first |(refine LOps.ans (AnsL.add rfl rfl ?_) ?_;(focus (constructor <;> omega))) |(refine LOps.ans (AnsL.sub rfl rfl ?_) ?_;(focus (constructor <;> omega))))) |(refine kWL ?_;first |(refine WL.seq ?_) |(refine WL.region (by kernel_rfl) ?_) |(refine WL.block ?_) |(refine WL.skip ?_) |(refine kCond ?_;first |(refine WL.condT' rfl ?_ ?_;(focus (first |(exact decide_eq_true (by assumption))))))) |(refine lthen_n ?_) |(refine lblock_n ?_)
   rw [PE.snoc,show (es.map PE.toV).length+[PE.ov y].length=(es++[y.1]).length by simp] at hh
   refine lbackH.of ((es++[y.1],c,n),i,h) ?_ hh (Sel.refl _) ⟨⟨by simp;omega,fun e he=>?_⟩,by assumption⟩ (by simp;omega)
   · dsimp only
     repeat' first | exact SubL.nil |(refine SubL.mk rfl ?_ ?_) | rfl |(simp;omega) |(simp <;> fail)
   · rcases List.mem_append.1 he with he | he
     · exact hwI e he
     · rw [List.mem_singleton] at he;subst he;exact hq
 · skip
   repeat' first |(refine kOps ?_;first |(refine LOps.nil ?_) |(refine LOps.ev tT_ok rfl ?_)) |(refine kWL ?_;first |(refine WL.seq ?_) |(refine WL.region (by kernel_rfl) ?_) |(refine WL.exit ?_) |(refine WL.ret ?_) |(refine kCond ?_;first |(refine WL.condF' rfl ?_ ?_;(focus (first |(exact decide_eq_false (by assumption))))))) |(refine lthen_n ?_) |(refine lthen_e ?_) |(refine lblock_e ?_) |(refine lbackH_e ?_) |(refine LPost.r1 (r := .tmp 6) (.inl rfl) (Res1.tmp rfl) ?_)
   exact DrwB.fin (y:=(es,c0,l0)) ⟨by show es.length=_;omega,hwI⟩ rfl hi hh (Sel.refl _)
set_option maxHeartbeats 4000000 in
theorem specl19Plan_d {b:V} (hb:Bytes b) {w:Nat} {deep:Int} (he:PE.D Try.prog 62 b [.int .i64 deep] (fun e=>wgt e.v≤w)) (hd:0≤deep∧deep≤99) :
   PL.D Try.prog 86 b [.int .i64 deep] (fun p=>wgt p.v≤64+6*w∧0<p.items.length):=by
 have hk:=fun (m:Int) hm=>specl19Kids_d (b:=b) (w:=w) (deep:=deep+1) (m:=m) (by rw [show deep+1 - 1=deep by omega];exact he) (by omega) hm
 intro s H l i h hi hh
 replace hh:Hold s s.next (.cell l (curC b i h)::H):=hh
 refine LCalls.body0 Try.func86 rfl (by kernel_rfl) ?_
 repeat' first |(refine kAlloc ?_ ;refine LOps.allocH tT_ok hh rfl rfl ?_ ;intro s n hh) |(refine kStore ?_ ;first |(refine LOps.storeH tT_ok 0 hh rfl rfl rfl rfl rfl rfl rfl rfl rfl ?_ ;intro s hh)) |(refine kCallN 59 ?_ ;first |(refine LOps.drawH 1 rfl rfl ok59 hh rfl rfl ?_ (specl1Below_d hb (by omega)) ?_ ;(focus (first | assumption | omega)) ;intro s x i h hq hi hh ;try dsimp only)) |(refine kCallN 72 ?_ ;first |(refine LOps.drawH 1 rfl rfl ok72 hh rfl rfl ?_ (specl1Once_d hb (by omega)) ?_ ;(focus (first | assumption | omega)) ;intro s x i h hq hi hh ;try dsimp only)) |(refine kOps ?_;first |(refine LOps.nil ?_) |(refine' LOps.ans (v := .agg _) (AnsL.buildZ tT_ok rfl rfl rfl rfl ?_) ?_;rotate_left 1;(focus ((repeat' first |(exact Fills.nil) |(refine' Fills.cons rfl rfl rfl rfl ?_));done))) |(refine LOps.ev tT_ok rfl ?_) |(refine kBin ?_;first |(refine LOps.ans (AnsL.add rfl rfl ?_) ?_;(focus (constructor <;> omega))))) |(refine kWL ?_;first |(refine WL.seq ?_) |(refine WL.region (by kernel_rfl) ?_) |(refine WL.block ?_)) |(refine lthen_n ?_)
 rename_i s1 nr hh1 s2 ds i2 h2 hq2 hi2 hh2 s3 hh3 s4 hh4
 replace hh:=hh.nil0.nil0
 refine WL.loopH (fun y:(List Int × Nat × Nat) × (List (List PE) × Nat × Nat) × Int × Int=>(1+x - y.1.1.length).toNat)
   (fun y=>[(0,.ptr l 0),(1,.int .i64 deep),(4,.ptr nr 0),(5,.ptr n 0),(6,.int .i64 (1+x)),(7,.int .i64 (y.1.1.length:Int))])
   (fun y => .own (.slm (.is y.1.2.1) y.1.2.2 0 y.1.1.length) (.sl 0 (y.1.1.map iV)) :: .own (.slm (.is y.2.1.2.1) y.2.1.2.2 0 y.2.1.1.length) (.sl 0 (y.2.1.1.map PE.vS)) :: .cell l (curC b y.2.2.1 y.2.2.2) ::
     .cell n [.slm (.is y.1.2.1) y.1.2.2 0 y.1.1.length,.slm (.is y.2.1.2.1) y.2.1.2.2 0 y.2.1.1.length,.slm (.is 0) 0 0 0,.slm (.is 0) 0 0 0,.slm (.is 0) 0 0 0,.slm (.is 0) 0 0 0,.bool ds,.int .i64 (-1)] ::
     .cell nr [.nilsl,.nilsl,.nilsl,.nilsl,.nilsl,.nilsl,.bool false,.int .i64 0]::H)
   (fun y=>((y.1.1.length:Int)≤1+x∧y.2.1.1.length=y.1.1.length∧∀ r∈y.2.1.1,r.length≤1∧∀ e∈r,wgt e.v≤w)∧0≤y.2.2.1) (([],0,0),([],0,0),i,h) ⟨⟨by simp;omega,rfl,by simp⟩,hi⟩ ⟨rfl,rfl,rfl,rfl,rfl,rfl,trivial⟩ hh (Sel.refl _) (fun y s hI hh=>?_)
 obtain ⟨⟨ts,c0,l0⟩,⟨os,c1,l1⟩,i,h⟩:=y
 obtain ⟨⟨hI,hoI,hwI⟩,hi⟩:=hI
 dsimp only at hI hoI hwI hi hh ⊢
 by_cases hlt:(ts.length:Int)<1+x
 · skip
   repeat' first |(refine kStore ?_ ;first |(refine LOps.storeH tT_ok 3 hh rfl rfl rfl rfl rfl rfl rfl rfl rfl ?_ ;intro s hh)) |(refine kBsl ?_ ;first |(refine LOps.ans (AnsL.bslE tT_ok rfl rfl rfl rfl rfl rfl rfl rfl ?_) ?_ ;(focus ((repeat' first |(exact ElsH.of rfl));done))) |(refine LOps.ans (AnsL.bslN tT_ok rfl rfl rfl rfl rfl) ?_)) |(refine kApp ?_ ;first |(refine' LOps.appW tT_ok 1 rfl rfl rfl rfl rfl rfl rfl rfl rfl rfl hh ?_ ?_ ?_ (AppB.of ?_ rfl) ?_ ;rotate_left 2 ;(focus (first |(intro x hx;obtain ⟨y,_,rfl⟩:=List.mem_map.1 hx;first | rfl | exact PE.cells_len _ | exact PE.planV_len _))) ;(focus ((repeat' first |(exact ConsOL.nil) |(exact ConsO.scal rfl) |(refine' ConsOL.cons ?_ ?_));done)) ;(focus ((repeat' first |(exact Elems.of rfl));done)) ;(focus (first | omega |(simp ;omega))) ;intro s c n hh) |(refine' LOps.appW tT_ok 2 rfl rfl rfl rfl rfl rfl rfl rfl rfl rfl hh ?_ ?_ ?_ (AppB.of ?_ rfl) ?_ ;rotate_left 2 ;(focus (first |(intro x hx;obtain ⟨y,_,rfl⟩:=List.mem_map.1 hx;first | rfl | exact PE.cells_len _ | exact PE.planV_len _))) ;(focus ((repeat' first |(exact ConsOL.nil) |(exact ConsO.slm0) |(refine' ConsOL.cons ?_ ?_));done)) ;(focus ((repeat' first |(exact Elems.of rfl));done)) ;(focus (first | omega |(simp ;omega))) ;intro s c n hh) |(refine' LOps.appW tT_ok 3 rfl rfl rfl rfl rfl rfl rfl rfl rfl rfl hh ?_ ?_ ?_ (AppB.of ?_ rfl) ?_ ;rotate_left 2 ;(focus (first |(intro x hx;obtain ⟨y,_,rfl⟩:=List.mem_map.1 hx;first | rfl | exact PE.cells_len _ | exact PE.planV_len _))) ;(focus ((repeat' first |(exact ConsOL.nil) |(refine' ConsO.op ?_;((repeat' first |(exact Pick.here));done)) |(refine' ConsOL.cons ?_ ?_));done)) ;(focus ((repeat' first |(exact Elems.of rfl));done)) ;(focus (first | omega |(simp ;omega))) ;intro s c n hh) |(refine' LOps.appS tT_ok rfl rfl rfl rfl rfl rfl rfl rfl hh ?_ ?_ (AppB.of ?_ rfl) ?_ ;rotate_left 2 ;(focus ((repeat' first |(exact ConsOL.nil) |(exact ConsO.scal rfl) |(refine' ConsO.op ?_;((repeat' first |(exact Pick.here) |(refine' Pick.there ?_));done)) |(refine' ConsOL.cons ?_ ?_) |(refine' ConsO.agg ?_));done)) ;(focus ((repeat' first |(exact Elems.of rfl));done)) ;(focus (first | omega |(simp <;> fail))) ;intro s c n hh)) |(refine kCallN 59 ?_ ;first |(refine LOps.drawH 2 rfl rfl ok59 hh rfl rfl ?_ (specl1Below_d hb (by omega)) ?_ ;(focus (first | assumption | omega)) ;intro s x i h hq hi hh ;try dsimp only)) |(refine kCallN 72 ?_ ;first |(refine LOps.drawH 1 rfl rfl ok72 hh rfl rfl ?_ (specl1Once_d hb (by omega)) ?_ ;(focus (first | assumption | omega)) ;intro s x i h hq hi hh ;try dsimp only)) |(refine kCallN 62 ?_ ;first |(refine LOps.drawB 0 rfl rfl ok62 hh (he) .nil rfl rfl ?_ ?_ ;(focus (first | assumption | omega)) ;intro s y i h hq hi hh ;try dsimp only [List.cons_append,List.nil_append] at hh)) |(refine kOps ?_;first |(refine LOps.nil ?_) |(refine kG ?_;first |(refine LOps.gT rfl rfl rfl ?_) |(refine LOps.gF rfl rfl rfl ?_) |(refine LOps.gC rfl rfl rfl (fun h=>?_) (fun h=>?_))) |(refine LOps.ev tT_ok rfl ?_) |(refine kLoad ?_;first |(refine LOps.ans (AnsL.loadH tT_ok 3 hh rfl rfl rfl rfl) ?_) |(refine LOps.ans (AnsL.loadH tT_ok 4 hh rfl rfl rfl rfl) ?_)) |(refine kBin ?_;first |(refine LOps.ans (AnsL.add rfl rfl ?_) ?_;(focus (constructor <;> omega))))) |(refine kWL ?_;first |(refine WL.seq ?_) |(refine WL.region (by kernel_rfl) ?_) |(refine WL.drawn (id:=6) [0,1,2,3,4,5,6,7] [3,5,7] [[],[0],[],[2],[2,3],[0,1,2,3,4],[0,1,2,3,4,5],[0,1,2,3,4,5,6]] (by kernel_rfl) (by kernel_rfl) ?_) |(refine WL.block ?_) |(refine WL.skip ?_) |(refine kCond ?_;first |(refine WL.condF rfl ?_) |(refine WL.condT' rfl ?_ ?_;(focus (first |(exact decide_eq_true (by assumption))))) |(refine WL.cond rfl (fun h=>?_) (fun h=>?_)))) |(refine kDr ?_;first |(refine LDr.nil ?_) |(refine LDr.fl rfl rfl (.ev tT_ok rfl) ?_) |(refine LDr.fl rfl rfl (AnsL.bslF tT_ok rfl rfl rfl rfl rfl rfl rfl rfl rfl) ?_) |(refine kDLoad rfl ?_;first |(refine LDr.fl rfl rfl (AnsL.loadH tT_ok 3 hh rfl rfl rfl rfl) ?_)) |(refine LDr.eff rfl rfl rfl ?_)) |(refine lthen_n ?_) |(refine lblock_n ?_) |(refine And.intro ?_ ?_) |(exact StsL.nil) |(refine StsL.cons ?_ ?_) |(refine StL.fl rfl rfl (.ev tT_ok rfl)) |(refine StL.fl rfl rfl (AnsL.loadH tT_ok 3 hh rfl rfl rfl rfl))
   · skip
     all_goals
       try simp only [PE.q_eq,List.length_append,List.length_map,List.length_cons,List.length_nil,Nat.zero_add,PE.vS] at hh
       refine' lbackH.of (((ts++[_],_,_),(os++[[y.1]],_,_),_,_)) ?_ hh ?_ ?_ ?_
       rotate_left 8
       · dsimp only;(try simp only [List.map_append,List.map_cons,List.map_nil,PE.vS,List.length_append,List.length_map,List.length_cons,List.length_nil,Nat.zero_add]);(repeat' first |(exact Sel.nil) |(exact Sel.refl _) |(refine' Sel.p ?_ ?_;rotate_left 1;(focus (((repeat' first |(exact Pick.here) |(refine' Pick.there ?_));done)))));done
       · dsimp only;refine ⟨⟨by simp;omega,by simp;omega,fun r hr=>?_⟩,by assumption⟩;rcases List.mem_append.1 hr with hr | hr;exact hwI r hr;rw [List.mem_singleton] at hr;subst hr;simp;try assumption
       · dsimp only;first | omega |(simp;omega) |(simp_all;omega)
       · repeat' first | exact SubL.nil |(refine SubL.mk rfl ?_ ?_) | rfl |(simp;done) |(simp;omega)
   all_goals
     try simp only [PE.q_eq,List.length_append,List.length_map,List.length_cons,List.length_nil,Nat.zero_add] at hh
     refine' lbackH.of (((ts++[_],_,_),(os++[[]],_,_),_,_)) ?_ hh ?_ ?_ ?_
     rotate_left 8
     · dsimp only;(try simp only [List.map_append,List.map_cons,List.map_nil,PE.vS,List.length_append,List.length_map,List.length_cons,List.length_nil,Nat.zero_add]);(repeat' first |(exact Sel.nil) |(exact Sel.refl _) |(refine' Sel.p ?_ ?_;rotate_left 1;(focus (((repeat' first |(exact Pick.here) |(refine' Pick.there ?_));done)))));done
     · dsimp only;refine ⟨⟨by simp;omega,by simp;omega,fun r hr=>?_⟩,by assumption⟩;rcases List.mem_append.1 hr with hr | hr;exact hwI r hr;rw [List.mem_singleton] at hr;subst hr;simp;try assumption
     · dsimp only;first | omega |(simp;omega) |(simp_all;omega)
     · repeat' first | exact SubL.nil |(refine SubL.mk rfl ?_ ?_) | rfl |(simp;done) |(simp;omega)
 have htl:(ts.length:Int)=1+x:=by omega
 have hx2:x≤1:=by omega
 repeat' first |(refine kCallN 59 ?_ ;first |(refine LOps.drawH 2 rfl rfl ok59 hh rfl rfl ?_ (specl1Below_d hb (by omega)) ?_ ;(focus (first | assumption | omega)) ;intro s x i h hq hi hh ;try dsimp only)) |(refine kOps ?_;first |(refine LOps.nil ?_) |(refine LOps.ev tT_ok rfl ?_) |(refine kBin ?_;first |(refine LOps.ans (AnsL.add rfl rfl ?_) ?_;(focus (constructor <;> omega))))) |(refine kWL ?_;first |(refine WL.seq ?_) |(refine WL.region (by kernel_rfl) ?_) |(refine WL.block ?_) |(refine WL.exit ?_) |(refine kCond ?_;first |(refine WL.condF' rfl ?_ ?_;(focus (first |(exact decide_eq_false (by assumption))))))) |(refine lthen_n ?_) |(refine lthen_e ?_) |(refine lblock_e ?_) |(refine lbackH_e ?_)
 replace hh:=hh.nil0.nil0
 refine WL.loopH (fun y:(List PE × Nat × Nat) × (List (List UInt8) × Nat × Nat) × Int × Int=>(1+x - y.1.1.length).toNat)
   (fun y=>[(0,.ptr l 0),(1,.int .i64 deep),(4,.ptr nr 0),(5,.ptr n 0),(6,.int .i64 (1+x)),(9,.int .i64 (y.1.1.length:Int))])
   (fun y => .own (.slm (.is y.1.2.1) y.1.2.2 0 y.1.1.length) (.sl 0 (y.1.1.map PE.toV)) :: .own (.slm (.is y.2.1.2.1) y.2.1.2.2 0 y.2.1.1.length) (.sl 0 (y.2.1.1.map sV)) :: .cell l (curC b y.2.2.1 y.2.2.2) ::
     .cell n [.slm (.is c0) l0 0 ts.length,.slm (.is c1) l1 0 os.length,.slm (.is 0) 0 0 0,.slm (.is 0) 0 0 0,.slm (.is y.1.2.1) y.1.2.2 0 y.1.1.length,.slm (.is y.2.1.2.1) y.2.1.2.2 0 y.2.1.1.length,.bool ds,.int .i64 (-1)] ::
     .cell nr [.nilsl,.nilsl,.nilsl,.nilsl,.nilsl,.nilsl,.bool false,.int .i64 0] :: .own (.slm (.is c0) l0 0 ts.length) (.sl 0 (ts.map iV)) :: .own (.slm (.is c1) l1 0 os.length) (.sl 0 (os.map PE.vS))::H)
   (fun y=>((y.1.1.length:Int)≤1+x∧y.2.1.1.length=y.1.1.length∧(∀ e∈y.1.1,wgt e.v≤w)∧∀ q∈y.2.1.1,q.length≤6)∧0≤y.2.2.1) (([],0,0),([],0,0),i,h) ⟨⟨by simp;omega,rfl,by simp,by simp⟩,hi⟩ ⟨rfl,rfl,rfl,rfl,rfl,rfl,trivial⟩ hh ?_ (fun y s hI hh=>?_)
 · dsimp only
   (repeat' first |(exact Sel.nil) |(exact Sel.refl _) |(refine' Sel.p ?_ ?_;rotate_left 1;(focus (((repeat' first |(exact Pick.here) |(refine' Pick.there ?_));done)))))
 obtain ⟨⟨is,c4,l4⟩,⟨ns,c5,l5⟩,i,h⟩:=y
 obtain ⟨⟨hI1,hnI,hwI1,hsI⟩,hi⟩:=hI
 dsimp only at hI1 hnI hwI1 hsI hi hh ⊢
 by_cases hlt1:(is.length:Int)<1+x
 · skip
   repeat' first |(refine kStore ?_ ;first |(refine LOps.storeH tT_ok 3 hh rfl rfl rfl rfl rfl rfl rfl rfl rfl ?_ ;intro s hh)) |(refine kApp ?_ ;first |(refine' LOps.appW tT_ok 2 rfl rfl rfl rfl rfl rfl rfl rfl rfl rfl hh ?_ ?_ ?_ (AppB.of ?_ rfl) ?_ ;rotate_left 2 ;(focus (first |(intro x hx;obtain ⟨y,_,rfl⟩:=List.mem_map.1 hx;first | rfl | exact PE.cells_len _ | exact PE.planV_len _))) ;(focus ((repeat' first |(exact ConsOL.nil) |(exact ConsO.scal rfl) |(refine' ConsOL.cons ?_ ?_));done)) ;(focus ((repeat' first |(exact Elems.of rfl));done)) ;(focus (first | omega |(simp ;omega))) ;intro s c n hh) |(refine' LOps.appW tT_ok 3 rfl rfl rfl rfl rfl rfl rfl rfl rfl rfl hh ?_ ?_ ?_ (AppB.of ?_ rfl) ?_ ;rotate_left 2 ;(focus (first |(intro x hx;obtain ⟨y,_,rfl⟩:=List.mem_map.1 hx;first | rfl | exact PE.cells_len _ | exact PE.planV_len _))) ;(focus ((repeat' first |(exact ConsOL.nil) |(exact ConsO.scal rfl) |(refine' ConsO.op ?_;((repeat' first |(exact Pick.here) |(refine' Pick.there ?_));done)) |(refine' ConsOL.cons ?_ ?_) |(refine' ConsO.agg ?_));done)) ;(focus ((repeat' first |(exact Elems.of rfl));done)) ;(focus (first | omega |(simp ;omega))) ;intro s c n hh)) |(refine kCallN 93 ?_ ;first |(refine LOps.drawH 1 rfl rfl ok93 hh rfl rfl ?_ (specl2Name_d hb) ?_ ;(focus (first | assumption | omega)) ;intro s x i h hq hi hh ;try dsimp only)) |(refine kCallN 62 ?_ ;first |(refine LOps.drawB 2 rfl rfl ok62 hh (he) .nil rfl rfl ?_ ?_ ;(focus (first | assumption | omega)) ;intro s y i h hq hi hh ;try dsimp only [List.cons_append,List.nil_append] at hh)) |(refine kOps ?_;first |(refine LOps.nil ?_) |(refine LOps.ev tT_ok rfl ?_) |(refine kBin ?_;first |(refine LOps.ans (AnsL.add rfl rfl ?_) ?_;(focus (constructor <;> omega))))) |(refine kWL ?_;first |(refine WL.seq ?_) |(refine WL.region (by kernel_rfl) ?_) |(refine WL.drawn (id:=15) [0,1,2,3,4,5,6,7,8] [4,6,8] [[],[0],[],[],[2,3],[2,3,4],[0,1,2,3,4,5],[0,1,2,3,4,5,6],[0,1,2,3,4,5,6,7]] (by kernel_rfl) (by kernel_rfl) ?_) |(refine WL.drawn (id:=16) [0,1,2,3,4,5,6,7] [3,5,7] [[],[0],[],[2],[2,3],[0,1,2,3,4],[0,1,2,3,4,5],[0,1,2,3,4,5,6]] (by kernel_rfl) (by kernel_rfl) ?_) |(refine WL.block ?_) |(refine WL.skip ?_) |(refine kCond ?_;first |(refine WL.condT' rfl ?_ ?_;(focus (first |(exact decide_eq_true (by assumption))))))) |(refine kDr ?_;first |(refine LDr.nil ?_) |(refine LDr.fl rfl rfl (.ev tT_ok rfl) ?_) |(refine LDr.fl rfl rfl (AnsL.bslF tT_ok rfl rfl rfl rfl rfl rfl rfl rfl rfl) ?_) |(refine kDLoad rfl ?_;first |(refine LDr.fl rfl rfl (AnsL.loadH tT_ok 3 hh rfl rfl rfl rfl) ?_)) |(refine LDr.eff rfl rfl rfl ?_)) |(refine lthen_n ?_) |(refine lblock_n ?_) |(refine And.intro ?_ ?_) |(exact StsL.nil) |(refine StsL.cons ?_ ?_) |(refine StL.fl rfl rfl (.ev tT_ok rfl)) |(refine StL.fl rfl rfl (AnsL.loadH tT_ok 3 hh rfl rfl rfl rfl)) |(refine StL.fl rfl rfl (AnsL.loadH tT_ok 5 hh rfl rfl rfl rfl))
   all_goals
     try simp only [PE.q_eq,List.length_append,List.length_map,List.length_cons,List.length_nil,Nat.zero_add] at hh
     refine' lbackH.of (((is++[y.1],_,_),(ns++[_],_,_),_,_)) ?_ hh ?_ ?_ ?_
     rotate_left 8
     · dsimp only;(try simp only [List.map_append,List.map_cons,List.map_nil,PE.vS,List.length_append,List.length_map,List.length_cons,List.length_nil,Nat.zero_add]);(repeat' first |(exact Sel.nil) |(exact Sel.refl _) |(refine' Sel.p ?_ ?_;rotate_left 1;(focus (((repeat' first |(exact Pick.here) |(refine' Pick.there ?_));done)))));done
     · dsimp only;refine ⟨⟨by simp;omega,by simp;omega,fun e he'=>?_,fun q hq'=>?_⟩,by assumption⟩;rcases List.mem_append.1 he' with he' | he';exact hwI1 e he';rw [List.mem_singleton] at he';subst he';assumption;rcases List.mem_append.1 hq' with hq' | hq';exact hsI q hq';rw [List.mem_singleton] at hq';subst hq';assumption
     · dsimp only;first | omega |(simp;omega) |(simp_all;omega)
     · repeat' first | exact SubL.nil |(refine SubL.mk rfl ?_ ?_) | rfl |(simp;done) |(simp;omega)
 have hil:(is.length:Int)=1+x:=by omega
 have hx3:x≤1:=by omega
 repeat' first |(refine kCallN 72 ?_ ;first |(refine LOps.drawH 2 rfl rfl ok72 hh rfl rfl ?_ (specl1Once_d hb (by omega)) ?_ ;(focus (first | assumption | omega)) ;intro s x i h hq hi hh ;try dsimp only)) |(refine kOps ?_;first |(refine LOps.nil ?_) |(refine LOps.ev tT_ok rfl ?_)) |(refine kWL ?_;first |(refine WL.seq ?_) |(refine WL.region (by kernel_rfl) ?_) |(refine WL.exit ?_) |(refine kCond ?_;first |(refine WL.condF' rfl ?_ ?_;(focus (first |(exact decide_eq_false (by assumption))))))) |(refine lthen_n ?_) |(refine lthen_e ?_) |(refine lblock_e ?_) |(refine lbackH_e ?_)
 refine WL.cutH (fun _:(List PE × Nat × Nat) × Int × Int=>[(0,.ptr l 0),(1,.int .i64 deep),(4,.ptr nr 0),(5,.ptr n 0)]) (fun y => .own (.slm (.is y.1.2.1) y.1.2.2 0 y.1.1.length) (.sl 0 (y.1.1.map PE.toV)) :: .cell l (curC b y.2.1 y.2.2) :: .cell n [.slm (.is c0) l0 0 ts.length,.slm (.is c1) l1 0 os.length,.slm (.is y.1.2.1) y.1.2.2 0 y.1.1.length,.slm (.is 0) 0 0 0,.slm (.is c4) l4 0 is.length,.slm (.is c5) l5 0 ns.length,.bool ds,.int .i64 (-1)] :: .cell nr [.nilsl,.nilsl,.nilsl,.nilsl,.nilsl,.nilsl,.bool false,.int .i64 0] :: .own (.slm (.is c4) l4 0 is.length) (.sl 0 (is.map PE.toV)) :: .own (.slm (.is c5) l5 0 ns.length) (.sl 0 (ns.map sV)) :: .own (.slm (.is c0) l0 0 ts.length) (.sl 0 (ts.map iV)) :: .own (.slm (.is c1) l1 0 os.length) (.sl 0 (os.map PE.vS))::H)
   (fun y=>(y.1.1.length≤1∧∀ e∈y.1.1,wgt e.v≤w)∧0≤y.2.1) ?_ (fun y s hI hh=>?_)
 · skip
   repeat' first |(refine kStore ?_ ;first |(refine LOps.storeH tT_ok 4 hh rfl rfl rfl rfl rfl rfl rfl rfl rfl ?_ ;intro s hh)) |(refine kCallN 102 ?_ ;first |(refine LOps.drawB 0 rfl rfl ok102 hh (hk _ (by omega)) .nil rfl rfl ?_ ?_ ;(focus (first | assumption | omega)) ;intro s y i h hq hi hh ;try dsimp only [List.cons_append,List.nil_append] at hh)) |(refine kOps ?_;first |(refine LOps.nil ?_) |(refine LOps.ev tT_ok rfl ?_) |(refine kBin ?_;first |(refine LOps.ans (AnsL.add rfl rfl ?_) ?_;(focus (constructor <;> omega))))) |(refine kWL ?_;first |(refine WL.region (by kernel_rfl) ?_) |(refine WL.skip ?_) |(refine kCond ?_;first |(refine WL.cond rfl (fun h=>?_) (fun h=>?_))))
   · skip
     all_goals
       try simp only [PE.q_eq,List.length_append,List.length_map,List.length_cons,List.length_nil,Nat.zero_add] at hh
       refine' CutH.of (((y.1,_,_),_,_)) ?_ hh ?_ ?_
       rotate_left 5
       · try dsimp only
         (try simp only [List.map_append,List.map_cons,List.map_nil,PE.vS,List.length_append,List.length_map,List.length_cons,List.length_nil,Nat.zero_add]);(repeat' first |(exact Sel.nil) |(exact Sel.refl _) |(refine' Sel.p ?_ ?_;rotate_left 1;(focus (((repeat' first |(exact Pick.here) |(refine' Pick.there ?_));done)))));done
       · try dsimp only
         exact ⟨⟨by have:=hq.1;omega,hq.2⟩,by assumption⟩
       · repeat' first | exact SubL.nil |(refine SubL.mk rfl ?_ ?_) | rfl |(simp;done) |(simp;omega)
   replace hh:=hh.nil0
   all_goals
     try simp only [PE.q_eq,List.length_append,List.length_map,List.length_cons,List.length_nil,Nat.zero_add] at hh
     refine' CutH.of ((([],0,0),_,_)) ?_ hh ?_ ?_
     rotate_left 3
     · try dsimp only
       (try simp only [List.map_append,List.map_cons,List.map_nil,PE.vS,List.length_append,List.length_map,List.length_cons,List.length_nil,Nat.zero_add]);(repeat' first |(exact Sel.nil) |(exact Sel.refl _) |(refine' Sel.p ?_ ?_;rotate_left 1;(focus (((repeat' first |(exact Pick.here) |(refine' Pick.there ?_));done)))));done
     · try dsimp only
       exact ⟨⟨by simp,by simp⟩,by assumption⟩
     · repeat' first | exact SubL.nil |(refine SubL.mk rfl ?_ ?_) | rfl |(simp;done) |(simp;omega)
 obtain ⟨⟨ws,c2,l2⟩,i,h⟩:=y
 obtain ⟨⟨hw1,hw2⟩,hi⟩:=hI
 dsimp only at hw1 hw2 hi hh ⊢
 repeat' first |(refine kCallN 72 ?_ ;first |(refine LOps.drawH 1 rfl rfl ok72 hh rfl rfl ?_ (specl1Once_d hb (by omega)) ?_ ;(focus (first | assumption | omega)) ;intro s x i h hq hi hh ;try dsimp only)) |(refine kOps ?_;first |(refine LOps.nil ?_) |(refine LOps.ev tT_ok rfl ?_)) |(refine kWL ?_;first |(refine WL.seq ?_) |(refine WL.region (by kernel_rfl) ?_)) |(refine lthen_n ?_)
 refine WL.cutH (fun _:(List (PE × Bool) × Nat × Nat) × Int × Int=>[(0,.ptr l 0),(1,.int .i64 deep),(4,.ptr nr 0),(5,.ptr n 0)]) (fun y => .own (.slm (.is y.1.2.1) y.1.2.2 0 y.1.1.length) (.sl 0 (y.1.1.map PE.sv)) :: .cell l (curC b y.2.1 y.2.2) :: .cell n [.slm (.is c0) l0 0 ts.length,.slm (.is c1) l1 0 os.length,.slm (.is c2) l2 0 ws.length,.slm (.is y.1.2.1) y.1.2.2 0 y.1.1.length,.slm (.is c4) l4 0 is.length,.slm (.is c5) l5 0 ns.length,.bool ds,.int .i64 (-1)] :: .cell nr [.nilsl,.nilsl,.nilsl,.nilsl,.nilsl,.nilsl,.bool false,.int .i64 0] :: .own (.slm (.is c2) l2 0 ws.length) (.sl 0 (ws.map PE.toV)) :: .own (.slm (.is c4) l4 0 is.length) (.sl 0 (is.map PE.toV)) :: .own (.slm (.is c5) l5 0 ns.length) (.sl 0 (ns.map sV)) :: .own (.slm (.is c0) l0 0 ts.length) (.sl 0 (ts.map iV)) :: .own (.slm (.is c1) l1 0 os.length) (.sl 0 (os.map PE.vS))::H)
   (fun y=>(y.1.1.length≤1∧∀ e∈y.1.1,wgt e.1.v≤w)∧0≤y.2.1) ?_ (fun y s hI hh=>?_)
 · skip
   repeat' first |(refine kStore ?_ ;first |(refine LOps.storeH tT_ok 3 hh rfl rfl rfl rfl rfl rfl rfl rfl rfl ?_ ;intro s hh)) |(refine kApp ?_ ;first |(refine' LOps.appS tT_ok rfl rfl rfl rfl rfl rfl rfl rfl hh ?_ ?_ (AppB.of ?_ rfl) ?_ ;rotate_left 2 ;(focus ((repeat' first |(exact ConsOL.nil) |(exact ConsO.scal rfl) |(refine' ConsO.op ?_;((repeat' first |(exact Pick.here) |(refine' Pick.there ?_));done)) |(refine' ConsOL.cons ?_ ?_) |(refine' ConsO.agg ?_));done)) ;(focus ((repeat' first |(exact Elems.of rfl));done)) ;(focus (first | omega |(simp <;> fail))) ;intro s c n hh)) |(refine kCallN 72 ?_ ;first |(refine LOps.drawH 2 rfl rfl ok72 hh rfl rfl ?_ (specl1Once_d hb (by omega)) ?_ ;(focus (first | assumption | omega)) ;intro s x i h hq hi hh ;try dsimp only)) |(refine kCallN 62 ?_ ;first |(refine LOps.drawB 0 rfl rfl ok62 hh (he) .nil rfl rfl ?_ ?_ ;(focus (first | assumption | omega)) ;intro s y i h hq hi hh ;try dsimp only [List.cons_append,List.nil_append] at hh)) |(refine kOps ?_;first |(refine LOps.nil ?_)) |(refine kWL ?_;first |(refine WL.drawn (id:=20) [0,1,2,3,5,4,6,7,8,9,10,11] [4,6,9,11] [[],[0],[],[],[2,3],[],[2,3,4,5],[2,3,4,5,6],[2,3,4,5,6,7],[0,1,2,3,4,5,6,7,8],[0,1,2,3,4,5,6,7,8,9],[0,1,2,3,4,5,6,7,8,9,10]] (by kernel_rfl) (by kernel_rfl) ?_) |(refine WL.skip ?_) |(refine kCond ?_;first |(refine WL.cond rfl (fun h=>?_) (fun h=>?_)))) |(refine kDr ?_;first |(refine LDr.nil ?_) |(refine' LDr.fl (v := .agg _) rfl rfl (AnsL.buildZ tT_ok rfl rfl rfl rfl ?_) ?_;rotate_left 1;(focus ((repeat' first |(exact Fills.nil) |(refine' Fills.cons rfl rfl rfl rfl ?_));done))) |(refine LDr.fl rfl rfl (.ev tT_ok rfl) ?_) |(refine LDr.fl rfl rfl (AnsL.bslF tT_ok rfl rfl rfl rfl rfl rfl rfl rfl rfl) ?_) |(refine kDLoad rfl ?_;first |(refine LDr.fl rfl rfl (AnsL.loadH tT_ok 2 hh rfl rfl rfl rfl) ?_)) |(refine LDr.eff rfl rfl rfl ?_)) |(refine And.intro ?_ ?_) |(exact StsL.nil) |(refine StsL.cons ?_ ?_) |(refine StL.fl rfl rfl (.ev tT_ok rfl)) |(refine StL.fl rfl rfl (AnsL.loadH tT_ok 4 hh rfl rfl rfl rfl))
   · skip
     all_goals
       try simp only [PE.q_eq,List.length_append,List.length_map,List.length_cons,List.length_nil,Nat.zero_add] at hh
       refine' CutH.of ((([(y.1,_)],_,_),_,_)) ?_ hh ?_ ?_
       rotate_left 6
       · try dsimp only
         (try simp only [List.map_append,List.map_cons,List.map_nil,PE.vS,List.length_append,List.length_map,List.length_cons,List.length_nil,Nat.zero_add]);(repeat' first |(exact Sel.nil) |(exact Sel.refl _) |(refine' Sel.p ?_ ?_;rotate_left 1;(focus (((repeat' first |(exact Pick.here) |(refine' Pick.there ?_));done)))));done
       · try dsimp only
         exact ⟨⟨by simp,fun e he'=>by rw [List.mem_singleton] at he';subst he';assumption⟩,by assumption⟩
       · repeat' first | exact SubL.nil |(refine SubL.mk rfl ?_ ?_) | rfl |(simp;done) |(simp;omega)
   replace hh:=hh.nil0
   all_goals
     try simp only [PE.q_eq,List.length_append,List.length_map,List.length_cons,List.length_nil,Nat.zero_add] at hh
     refine' CutH.of ((([],0,0),_,_)) ?_ hh ?_ ?_
     rotate_left 3
     · try dsimp only
       (try simp only [List.map_append,List.map_cons,List.map_nil,PE.vS,List.length_append,List.length_map,List.length_cons,List.length_nil,Nat.zero_add]);(repeat' first |(exact Sel.nil) |(exact Sel.refl _) |(refine' Sel.p ?_ ?_;rotate_left 1;(focus (((repeat' first |(exact Pick.here) |(refine' Pick.there ?_));done)))));done
     · try dsimp only
       exact ⟨⟨by simp,by simp⟩,by assumption⟩
     · repeat' first | exact SubL.nil |(refine SubL.mk rfl ?_ ?_) | rfl |(simp;done) |(simp;omega)
 obtain ⟨⟨rs,c3,l3⟩,i,h⟩:=y
 obtain ⟨⟨ho1,ho2⟩,hi⟩:=hI
 dsimp only at ho1 ho2 hi hh ⊢
 repeat' first |(refine kStore ?_ ;first |(refine LOps.storeH tT_ok 2 hh rfl rfl rfl rfl rfl rfl rfl rfl rfl ?_ ;intro s hh) |(refine LOps.storeH tT_ok 3 hh rfl rfl rfl rfl rfl rfl rfl rfl rfl ?_ ;intro s hh)) |(refine kCallN 72 ?_ ;first |(refine LOps.drawH 1 rfl rfl ok72 hh rfl rfl ?_ (specl1Once_d hb (by omega)) ?_ ;(focus (first | assumption | omega)) ;intro s x i h hq hi hh ;try dsimp only)) |(refine kCallN 87 ?_ ;first |(refine LOps.drawH 0 rfl rfl ok87 hh rfl rfl ?_ (specl1Whole_d hb) ?_ ;(focus (first | assumption | omega)) ;intro s x i h hq hi hh ;try dsimp only)) |(refine kOps ?_;first |(refine LOps.nil ?_) |(refine LOps.ev tT_ok rfl ?_) |(refine kLoad ?_;first |(refine LOps.ans (AnsL.loadH tT_ok 2 hh rfl rfl rfl rfl) ?_))) |(refine kWL ?_;first |(refine WL.seq ?_) |(refine WL.region (by kernel_rfl) ?_) |(refine WL.skip ?_) |(refine WL.ret ?_) |(refine kCond ?_;first |(refine WL.cond rfl (fun h=>?_) (fun h=>?_)))) |(refine lthen_n ?_) |(refine' LPost.r1 (r := .cell 4 44) (.inl rfl) ?_ ?_;rotate_left 1;(focus (first | exact Res1.cellH 0 tT_ok hh rfl rfl rfl rfl | exact Res1.cellH 1 tT_ok hh rfl rfl rfl rfl | exact Res1.cellH 2 tT_ok hh rfl rfl rfl rfl | exact Res1.cellH 3 tT_ok hh rfl rfl rfl rfl | exact Res1.cellH 4 tT_ok hh rfl rfl rfl rfl | exact Res1.cellH 5 tT_ok hh rfl rfl rfl rfl | exact Res1.cellH 6 tT_ok hh rfl rfl rfl rfl | exact Res1.cellH 7 tT_ok hh rfl rfl rfl rfl | exact Res1.cellHW 0 tT_ok hh rfl rfl rfl rfl | exact Res1.cellHW 1 tT_ok hh rfl rfl rfl rfl | exact Res1.cellHW 2 tT_ok hh rfl rfl rfl rfl | exact Res1.cellHW 3 tT_ok hh rfl rfl rfl rfl | exact Res1.cellHW 4 tT_ok hh rfl rfl rfl rfl | exact Res1.cellHW 5 tT_ok hh rfl rfl rfl rfl | exact Res1.cellHW 6 tT_ok hh rfl rfl rfl rfl | exact Res1.cellHW 7 tT_ok hh rfl rfl rfl rfl)))
 all_goals
   apply DrwB.fin (y:=(⟨ts,os,ws,rs,is,ns,ds,_⟩,fun k=>match k with | 0=>(c0,l0) | 1=>(c1,l1) | 2=>(c2,l2) | 3=>(c3,l3) | 4=>(c4,l4) | _=>(c5,l5))) (hh:=hh)
   case hv=>rfl
   case hi=>assumption
   case hs =>
     dsimp only [PL.ob,List.cons_append,List.nil_append]
     (repeat' first |(exact Sel.nil) |(exact Sel.refl _) |(refine' Sel.p ?_ ?_;rotate_left 1;(focus (((repeat' first |(exact Pick.here) |(refine' Pick.there ?_));done)))))
     (repeat' first |(exact Sel.refl _) |(refine Sel.drop ?_))
   case hp =>
     dsimp only
     refine ⟨?_,by omega⟩
     rw [PL.wgt_eq]
     dsimp only
     have g1:=wgt_sl_le (f:=iV) (c:=0) ts (fun x _=>by simp [iV,wgt])
     have g2:=wgt_sl_le (f:=PE.vS) (c:=1+w) os (fun r hr=>by
       have h1:=wgt_sl_le (f:=PE.toV) (c:=w) r (fun e he'=>by rw [PE.toV_eq];exact (hwI r hr).2 e he')
       have h2:=(hwI r hr).1
       have h3:r.length*(w+1)≤1*(w+1):=Nat.mul_le_mul_right _ h2
       simp only [PE.vS]
       omega)
     have g3:=wgt_sl_le (f:=PE.toV) (c:=w) ws (fun e he'=>by rw [PE.toV_eq];exact hw2 e he')
     have g4:=wgt_sl_le (f:=PE.sv) (c:=w) rs (fun e he'=>by rw [PE.wgt_eqs];exact ho2 e he')
     have g5:=wgt_sl_le (f:=PE.toV) (c:=w) is (fun e he'=>by rw [PE.toV_eq];exact hwI1 e he')
     have g6:=wgt_sl_le (f:=sV) (c:=6) ns (fun q hq'=>by simpa [sV,wgt] using hsI q hq')
     have m1:os.length*(1+w+1)≤2*(1+w+1):=Nat.mul_le_mul_right _ (by omega)
     have m2:ws.length*(w+1)≤1*(w+1):=Nat.mul_le_mul_right _ (by omega)
     have m3:rs.length*(w+1)≤1*(w+1):=Nat.mul_le_mul_right _ (by omega)
     have m4:is.length*(w+1)≤2*(w+1):=Nat.mul_le_mul_right _ (by omega)
     omega
end Go.Proofs.Ytolhegocbkckdaa
