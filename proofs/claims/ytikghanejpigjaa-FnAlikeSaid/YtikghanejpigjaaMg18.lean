/-
  Plans' trees and plans drawn, in memory of one's own.
  Plans' trees drawn, whole: by induction on the depth.
  Own work; no condition.
-/
import Derived.Test.YtikghanejpigjaaVCap
import Derived.Test.YtikghanejpigjaaMg17
namespace Go.Proofs.Ytikghanejpigjaa
open Go
set_option linter.unusedSimpArgs false
set_option linter.unusedVariables false
theorem Val.agg_eq (a b:Int) (c:List UInt8):V.agg [.int .i64 a,.int .i64 b,.str c]=Val.toV ⟨a,b,c⟩:=rfl
def strLe (n:Nat):V→Bool
 | .str x=>decide (x.length≤n)
 | _=>false
theorem pick_len {x:List UInt8} {vs:List V} {n:Nat} (h:V.str x∈vs) (ha:vs.all (strLe n)=true):x.length≤n:=by
 have:=List.all_eq_true.1 ha _ h
 simpa [strLe] using this
theorem specIntValue_v (n:Int) (s:S):VCalls Try.prog 112 [.int .i64 n] s (fun v s'=>v = .agg [.int .i64 1,.int .i64 n,.str []]∧s'=s):=by
 refine LCalls.pure Try.func112 rfl (by kernel_rfl) (by simp) ?_
 repeat' first |(refine kOps ?_;first |(refine LOps.nil ?_) |(refine kStore ?_;refine LOps.storeP tT_ok rfl rfl rfl rfl rfl rfl rfl rfl rfl ?_) |(refine LOps.ev tT_ok rfl ?_) |(refine kAlloc ?_;refine LOps.alloc tT_ok rfl rfl rfl rfl ?_)) |(refine kWL ?_;first |(refine WL.seq ?_) |(refine WL.region (by kernel_rfl) ?_) |(refine WL.ret ?_)) |(refine lthen_n ?_) |(refine LPost.r1 (r := .cell 2 33) (.inl rfl) (Res1.cell tT_ok rfl rfl rfl rfl) ?_) |(refine PureR.mk ?_)
 rfl
theorem specTextValue_v (t:List UInt8) (s:S):VCalls Try.prog 110 [.str t] s (fun v s'=>v = .agg [.int .i64 2,.int .i64 0,.str t]∧s'=s):=by
 refine LCalls.pure Try.func110 rfl (by kernel_rfl) (by simp) ?_
 repeat' first |(refine kOps ?_;first |(refine LOps.nil ?_) |(refine kStore ?_;refine LOps.storeP tT_ok rfl rfl rfl rfl rfl rfl rfl rfl rfl ?_) |(refine LOps.ev tT_ok rfl ?_) |(refine kAlloc ?_;refine LOps.alloc tT_ok rfl rfl rfl rfl ?_)) |(refine kWL ?_;first |(refine WL.seq ?_) |(refine WL.region (by kernel_rfl) ?_) |(refine WL.ret ?_)) |(refine lthen_n ?_) |(refine LPost.r1 (r := .cell 2 33) (.inl rfl) (Res1.cell tT_ok rfl rfl rfl rfl) ?_) |(refine PureR.mk ?_)
 rfl
theorem specBoolValue_v (b:Bool) (s:S):VCalls Try.prog 111 [.bool b] s (fun v s'=>v = .agg [.int .i64 3,.int .i64 (if b then 1 else 0),.str []]∧s'=s):=by
 cases b
 all_goals
   refine LCalls.pure Try.func111 rfl (by kernel_rfl) (by simp) ?_
   repeat' first |(refine kOps ?_;first |(refine LOps.nil ?_) |(refine kStore ?_;refine LOps.storeP tT_ok rfl rfl rfl rfl rfl rfl rfl rfl rfl ?_) |(refine LOps.ev tT_ok rfl ?_) |(refine kAlloc ?_;refine LOps.alloc tT_ok rfl rfl rfl rfl ?_)) |(refine kWL ?_;first |(refine WL.seq ?_) |(refine WL.region (by kernel_rfl) ?_) |(refine WL.skip ?_) |(refine WL.ret ?_) |(refine kCond ?_;first |(refine WL.condT rfl ?_) |(refine WL.condF rfl ?_))) |(refine lthen_n ?_) |(refine lthen_r ?_) |(refine LPost.r1 (r := .cell 2 33) (.inl rfl) (Res1.cell tT_ok rfl rfl rfl rfl) ?_) |(refine PureR.mk ?_)
   rfl
theorem specl5Right_d {b:V} (hb:Bytes b):Drw Try.prog 88 b [] Val.toV (fun x=>x.text.length≤4):=by
 intro s H l i h hi hh
 refine LCalls.body0 Try.func88 rfl (by kernel_rfl) ?_
 repeat' first |(refine kAlloc ?_ ;refine LOps.allocH tT_ok hh rfl rfl ?_ ;intro s n hh) |(refine kStore ?_ ;first |(refine LOps.storeH tT_ok 1 hh rfl rfl rfl rfl rfl rfl rfl rfl rfl ?_ ;intro s hh) |(refine LOps.storeH tT_ok 2 hh rfl rfl rfl rfl rfl rfl rfl rfl rfl ?_ ;intro s hh)) |(refine kBsl ?_ ;refine' LOps.bslH tT_ok rfl rfl rfl rfl rfl rfl rfl rfl hh ?_ ?_ ?_ ;rotate_left 2 ;(focus ((repeat' first |(exact ConsL.pls rfl rfl));done)) ;(focus ((repeat' first |(exact ElsH.of rfl));done)) ;intro s n hh) |(refine kCallN 26 ?_ ;first |(refine LOps.drawH 0 rfl rfl ok26 hh rfl rfl ?_ (specl1Below_d hb (by omega)) ?_ ;(focus (first | assumption | omega)) ;intro s x i h hq hi hh ;try dsimp only) |(refine LOps.drawH 1 rfl rfl ok26 hh rfl rfl ?_ (specl1Below_d hb (by omega)) ?_ ;(focus (first | assumption | omega)) ;intro s x i h hq hi hh ;try dsimp only)) |(refine kCallN 86 ?_ ;first |(refine LOps.drawH 1 rfl rfl ok86 hh rfl rfl ?_ (specl1Pick_d hb rfl (by simp)) ?_ ;(focus (first | assumption | omega)) ;intro s x i h hq hi hh ;try dsimp only)) |(refine kCallN 39 ?_ ;first |(refine LOps.drawH 0 rfl rfl ok39 hh rfl rfl ?_ (specl1Once_d hb (by omega)) ?_ ;(focus (first | assumption | omega)) ;intro s x i h hq hi hh ;try dsimp only)) |(refine kCallN 89 ?_ ;first |(refine LOps.drawH 0 rfl rfl ok89 hh rfl rfl ?_ (specl1Whole_d hb) ?_ ;(focus (first | assumption | omega)) ;intro s x i h hq hi hh ;try dsimp only)) |(refine kOps ?_;first |(refine LOps.nil ?_) |(refine LOps.ev tT_ok rfl ?_) |(refine kBin ?_;first |(refine LOps.ans (AnsL.sub rfl rfl ?_) ?_;(focus (constructor <;> omega)))) |(refine kCallN 110 ?_;first |(refine LOps.ans (AnsL.callP rfl rfl rfl (ok110) (specTextValue_v _ _)) ?_)) |(refine kCallN 111 ?_;first |(refine LOps.ans (AnsL.callP rfl rfl rfl (ok111) (specBoolValue_v _ _)) ?_)) |(refine kCallN 112 ?_;first |(refine LOps.ans (AnsL.callP rfl rfl rfl (ok112) (specIntValue_v _ _)) ?_))) |(refine kWL ?_;first |(refine WL.seq ?_) |(refine WL.region (by kernel_rfl) ?_) |(refine WL.block ?_) |(refine WL.skip ?_) |(refine WL.ret ?_) |(refine kCond ?_;first |(refine WL.cond rfl (fun h=>?_) (fun h=>?_)))) |(refine lthen_n ?_) |(refine lthen_r ?_) |(refine lblock_n ?_) |(refine lblock_r ?_) |(refine' LPost.r1 (r := .cell 2 33) (.inl rfl) ?_ ?_;rotate_left 1;(focus (first |(exact Res1.cellH 1 tT_ok hh rfl rfl rfl rfl) |(exact Res1.cellH 2 tT_ok hh rfl rfl rfl rfl))))
 all_goals
   apply Drw.fin (x:=⟨_,_,_⟩) (hh:=hh)
   case hv=>first | exact Val.agg_eq _ _ _ | rfl
   case hs=>(first |(refine Sel.cons 0 rfl rfl ?_) |(refine Sel.cons 1 rfl rfl ?_) |(refine Sel.cons 2 rfl rfl ?_) |(refine Sel.cons 3 rfl rfl ?_) |(refine Sel.cons 4 rfl rfl ?_) |(refine Sel.cons 5 rfl rfl ?_) |(refine Sel.cons 6 rfl rfl ?_) |(refine Sel.cons 7 rfl rfl ?_));(repeat' first |(exact Sel.refl _) |(refine Sel.drop ?_))
   case hi=>first | assumption | omega |(simp;omega)
   case hp=>first |(simp;done) |(exact pick_len (by assumption) rfl)
theorem specl7Value_d {b:V} (hb:Bytes b):Drw Try.prog 46 b [] Val.toV (fun x=>x.text.length≤4):=by
 intro s H l i h hi hh
 refine LCalls.body0 Try.func46 rfl (by kernel_rfl) ?_
 repeat' first |(refine kAlloc ?_ ;refine LOps.allocH tT_ok hh rfl rfl ?_ ;intro s n hh) |(refine kStore ?_ ;first |(refine LOps.storeH tT_ok 0 hh rfl rfl rfl rfl rfl rfl rfl rfl rfl ?_ ;intro s hh) |(refine LOps.storeH tT_ok 2 hh rfl rfl rfl rfl rfl rfl rfl rfl rfl ?_ ;intro s hh)) |(refine kCallN 88 ?_ ;first |(refine LOps.drawH 1 rfl rfl ok88 hh rfl rfl ?_ (specl5Right_d hb) ?_ ;(focus (first | assumption | omega)) ;intro s x i h hq hi hh ;try dsimp only)) |(refine kOps ?_;first |(refine LOps.nil ?_) |(refine kG ?_;first |(refine LOps.gT rfl rfl rfl ?_) |(refine LOps.gF rfl rfl rfl ?_) |(refine LOps.gC rfl rfl rfl (fun h=>?_) (fun h=>?_))) |(refine LOps.ev tT_ok rfl ?_) |(refine kLoad ?_;first |(refine LOps.ans (AnsL.loadH tT_ok 0 hh rfl rfl rfl rfl) ?_))) |(refine kWL ?_;first |(refine WL.seq ?_) |(refine WL.region (by kernel_rfl) ?_) |(refine WL.skip ?_) |(refine WL.ret ?_) |(refine kCond ?_;first |(refine WL.condF rfl ?_) |(refine WL.cond rfl (fun h=>?_) (fun h=>?_)))) |(refine lthen_n ?_) |(refine' LPost.r1 (r := .cell 2 33) (.inl rfl) ?_ ?_;rotate_left 1;(focus (first |(exact Res1.cellH 2 tT_ok hh rfl rfl rfl rfl))))
 all_goals
   apply Drw.fin (x:=⟨_,_,_⟩) (hh:=hh)
   case hv=>first | exact Val.agg_eq _ _ _ | rfl
   case hs=>(first |(refine Sel.cons 0 rfl rfl ?_) |(refine Sel.cons 1 rfl rfl ?_) |(refine Sel.cons 2 rfl rfl ?_) |(refine Sel.cons 3 rfl rfl ?_) |(refine Sel.cons 4 rfl rfl ?_) |(refine Sel.cons 5 rfl rfl ?_) |(refine Sel.cons 6 rfl rfl ?_) |(refine Sel.cons 7 rfl rfl ?_));(repeat' first |(exact Sel.refl _) |(refine Sel.drop ?_))
   case hi=>first | assumption | omega |(simp;omega)
   case hp=>assumption
theorem specl2Name_d {b:V} (hb:Bytes b):Drw Try.prog 87 b [] V.str (fun x=>x.length≤6):=by
 intro s H l i h hi hh
 refine LCalls.body0 Try.func87 rfl (by kernel_rfl) ?_
 repeat' first |(refine kBsl ?_ ;refine' LOps.bslH tT_ok rfl rfl rfl rfl rfl rfl rfl rfl hh ?_ ?_ ?_ ;rotate_left 2 ;(focus ((repeat' first |(exact ConsL.pls rfl rfl));done)) ;(focus ((repeat' first |(exact ElsH.of rfl));done)) ;intro s n hh) |(refine kCallN 86 ?_ ;first |(refine LOps.drawH 1 rfl rfl ok86 hh rfl rfl ?_ (specl1Pick_d hb rfl (by simp)) ?_ ;(focus (first | assumption | omega)) ;intro s x i h hq hi hh ;try dsimp only)) |(refine kCallN 39 ?_ ;first |(refine LOps.drawH 0 rfl rfl ok39 hh rfl rfl ?_ (specl1Once_d hb (by omega)) ?_ ;(focus (first | assumption | omega)) ;intro s x i h hq hi hh ;try dsimp only)) |(refine kOps ?_;first |(refine LOps.nil ?_) |(refine LOps.ev tT_ok rfl ?_)) |(refine kWL ?_;first |(refine WL.seq ?_) |(refine WL.region (by kernel_rfl) ?_) |(refine WL.skip ?_) |(refine WL.ret ?_) |(refine kCond ?_;first |(refine WL.cond rfl (fun h=>?_) (fun h=>?_)))) |(refine lthen_n ?_) |(refine lthen_r ?_) |(refine LPost.r1 (r := .tmp 2) (.inl rfl) (Res1.tmp rfl) ?_)
 all_goals
   apply Drw.fin (hh:=hh)
   case hv=>first | exact Val.agg_eq _ _ _ | rfl
   case hs=>(first |(refine Sel.cons 0 rfl rfl ?_) |(refine Sel.cons 1 rfl rfl ?_) |(refine Sel.cons 2 rfl rfl ?_) |(refine Sel.cons 3 rfl rfl ?_) |(refine Sel.cons 4 rfl rfl ?_) |(refine Sel.cons 5 rfl rfl ?_) |(refine Sel.cons 6 rfl rfl ?_) |(refine Sel.cons 7 rfl rfl ?_));(repeat' first |(exact Sel.refl _) |(refine Sel.drop ?_))
   case hi=>first | assumption | omega |(simp;omega)
   case hp=>exact pick_len (by assumption) rfl
theorem PE.q_eq (x:PE):V.agg [.int .i64 x.kind,.int .i64 x.op,.bool x.nt,.int .i64 x.value.kind,.int .i64 x.value.num,.str x.value.text,.int .i64 x.up,.int .i64 x.pos,.sl 0 (x.kids.map PE.toV),.sl 0 (x.sub.map PE.planV)]=x.toV:=(PE.toV_eq x).symm
theorem wgt_sl_le {α : Type} {f : α → V} {c:Nat}:∀ l:List α,(∀ x∈l,wgt (f x)≤c)→wgt (.sl 0 (l.map f))≤l.length*(c+1)
 | [],_=>by simp [wgt,wgtL]
 | x::l,h=>by
   have h1:=h x (by simp)
   have h2:=wgt_sl_le l fun y hy=>h y (by simp [hy])
   simp only [List.map_cons,wgt,wgtL,List.length_cons,List.length_map,Nat.add_mul] at h2 ⊢
   omega
def f2 (a b:Nat × Nat):Nat→Nat × Nat
 | 0=>a
 | _=>b
abbrev PE.ov (w:PE × (Nat→Nat × Nat)):V := .agg [.int .i64 w.1.kind,.int .i64 w.1.op,.bool w.1.nt,.int .i64 w.1.value.kind,.int .i64 w.1.value.num,.str w.1.value.text,.int .i64 w.1.up,.int .i64 w.1.pos,.slm (.is (w.2 0).1) (w.2 0).2 0 w.1.kids.length,.slm (.is (w.2 1).1) (w.2 1).2 0 w.1.sub.length]
abbrev PE.ob (w:PE × (Nat→Nat × Nat)):List BE:=[.own (.slm (.is (w.2 0).1) (w.2 0).2 0 w.1.kids.length) (.sl 0 (w.1.kids.map PE.toV)),.own (.slm (.is (w.2 1).1) (w.2 1).2 0 w.1.sub.length) (.sl 0 (w.1.sub.map PE.planV))]
abbrev PL.ov (w:PL × (Nat→Nat × Nat)):V := .agg [.slm (.is (w.2 0).1) (w.2 0).2 0 w.1.tables.length,.slm (.is (w.2 1).1) (w.2 1).2 0 w.1.on.length,.slm (.is (w.2 2).1) (w.2 2).2 0 w.1.wher.length,.slm (.is (w.2 3).1) (w.2 3).2 0 w.1.order.length,.slm (.is (w.2 4).1) (w.2 4).2 0 w.1.items.length,.slm (.is (w.2 5).1) (w.2 5).2 0 w.1.names.length,.bool w.1.distinct,.int .i64 w.1.limit]
abbrev PL.ob (w:PL × (Nat→Nat × Nat)):List BE:=[.own (.slm (.is (w.2 0).1) (w.2 0).2 0 w.1.tables.length) (.sl 0 (w.1.tables.map iV)),.own (.slm (.is (w.2 1).1) (w.2 1).2 0 w.1.on.length) (.sl 0 (w.1.on.map PE.vS)),.own (.slm (.is (w.2 2).1) (w.2 2).2 0 w.1.wher.length) (.sl 0 (w.1.wher.map PE.toV)),
 .own (.slm (.is (w.2 3).1) (w.2 3).2 0 w.1.order.length) (.sl 0 (w.1.order.map PE.sv)),.own (.slm (.is (w.2 4).1) (w.2 4).2 0 w.1.items.length) (.sl 0 (w.1.items.map PE.toV)),.own (.slm (.is (w.2 5).1) (w.2 5).2 0 w.1.names.length) (.sl 0 (w.1.names.map sV))]
abbrev PE.D (P:Program) (g:FuncId) (b:V) (args:List V) (p:PE→Prop):Prop:=DrwB P g b args [] PE.ov PE.ob (fun w=>p w.1)
abbrev PL.D (P:Program) (g:FuncId) (b:V) (args:List V) (p:PL→Prop):Prop:=DrwB P g b args [] PL.ov PL.ob (fun w=>p w.1)
end Go.Proofs.Ytikghanejpigjaa

namespace Go.Proofs.Ytikghanejpigjaa
open Go
set_option linter.unusedSimpArgs false
set_option linter.unusedVariables false
def wE:Nat→Nat
 | 0=>8
 | 1=>30
 | n+2=>3*(wE (n+1)+1)+1+(64+6*wE n)
theorem wE_le:∀ n,8≤wE n
 | 0=>by decide
 | 1=>by decide
 | n+2=>by simp only [wE];omega
theorem wE_kids (n:Nat):3*(wE n+1)+1≤wE (n+1):=by
 cases n with
 | zero=>decide
 | succ n=>show 3*(wE (n+1)+1)+1≤3*(wE (n+1)+1)+1+(64+6*wE n);omega
theorem wE_mono (n:Nat):wE n≤wE (n+1):=by have:=wE_kids n;omega
theorem kids_wgt {es:List PE} {w:Nat} (h:∀ e∈es,wgt e.v≤w):wgt (.sl 0 (es.map PE.toV))≤es.length*(w+1):=wgt_sl_le es fun e he=>by rw [PE.toV_eq];exact h e he
theorem wgt_nilP:wgt (.sl 0 (([]:List PL).map PE.planV))=0:=rfl
theorem wgt_nilE:wgt (.sl 0 (([]:List PE).map PE.toV))=0:=rfl
theorem wgt_oneP (p:PL):wgt (.sl 0 ([p].map PE.planV))=1+wgt p.v:=by simp only [List.map_cons,List.map_nil,PE.planV_eq,wgt,wgtL,List.length_cons,List.length_nil];omega
end Go.Proofs.Ytikghanejpigjaa
