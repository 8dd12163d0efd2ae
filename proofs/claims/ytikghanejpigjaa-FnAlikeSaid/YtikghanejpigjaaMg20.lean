/-
  Queries' trees drawn, in memory of one's own: columns, rows of trees, queries.
  Lists compared element by element: of the program, of the reference and of Go's library. Printed by a program of our own; no condition.
  Own work; no condition.
-/
import Derived.Test.YtikghanejpigjaaMg18
import Derived.Test.YtikghanejpigjaaDEE
import Derived.Test.YtikghanejpigjaaMg15
namespace Go.Proofs.Ytikghanejpigjaa
open Go
set_option linter.unusedSimpArgs false
set_option linter.unusedVariables false
def QueryOf.exprs {α : Type} (q:QueryOf α):List α := (q.items.filter (fun x => !x.star)).map (·.e)++(q.src.map (·.on)).flatten++q.wher++q.order.map (·.1)
def shp (kind:Int) (kids subs:Nat):Prop:=(kind=3→1≤kids)∧(kind=9→1≤subs)∧(kind=8→1≤subs)∧(kind=4→2≤kids)∧(kind=6→3≤kids)∧(kind≠1→kind≠2→kind≠9→1≤kids)
inductive Sh:EE→Prop
 | mk {e:EE}:shp e.kind e.kids.length e.sub.length→(∀ k,k∈e.kids→Sh k)→(∀ q,q∈e.sub→∀ k,k∈q.exprs→Sh k)→Sh e
theorem Sh.sh {e:EE} (h:Sh e):shp e.kind e.kids.length e.sub.length:=by cases h;assumption
theorem Sh.kid {e k:EE} (h:Sh e) (hk:k∈e.kids):Sh k:=by cases h with | mk a b c=>exact b k hk
theorem Sh.part {e k:EE} {q:EQ} (h:Sh e) (hq:q∈e.sub) (hk:k∈q.exprs):Sh k:=by cases h with | mk a b c=>exact c q hq k hk
def ShQ (q:EQ):Prop:=∀ k,k∈q.exprs→Sh k
theorem EE.q_eq (x:EE):V.agg [.int .i64 x.kind,.int .i64 x.op,.bool x.nt,.int .i64 x.value.kind,.int .i64 x.value.num,.str x.value.text,.str x.qual,.str x.name,.sl 0 (x.kids.map EE.toV),.sl 0 (x.sub.map EE.queryV)]=x.toV:=(EE.toV_eq x).symm
theorem EQ.q_eq (q:EQ):V.agg [.bool q.distinct,.sl 0 (q.items.map EItem.v),.sl 0 (q.src.map ESrc.v),.sl 0 (q.wher.map EE.toV),.sl 0 (q.order.map EE.sv),.int .i64 q.limit]=EE.queryV q:=(EE.queryV_eq q).symm
theorem EE.snoc (es:List EE) (x:EE):es.map EE.toV++[V.agg [.int .i64 x.kind,.int .i64 x.op,.bool x.nt,.int .i64 x.value.kind,.int .i64 x.value.num,.str x.value.text,.str x.qual,.str x.name,.sl 0 (x.kids.map EE.toV),.sl 0 (x.sub.map EE.queryV)]]=(es++[x]).map EE.toV:=by
 rw [EE.q_eq,List.map_append,List.map_cons,List.map_nil]
abbrev EE.ov (w:EE × (Nat→Nat × Nat)):V := .agg [.int .i64 w.1.kind,.int .i64 w.1.op,.bool w.1.nt,.int .i64 w.1.value.kind,.int .i64 w.1.value.num,.str w.1.value.text,.str w.1.qual,.str w.1.name,.slm (.is (w.2 0).1) (w.2 0).2 0 w.1.kids.length,.slm (.is (w.2 1).1) (w.2 1).2 0 w.1.sub.length]
abbrev EE.ob (w:EE × (Nat→Nat × Nat)):List BE:=[.own (.slm (.is (w.2 0).1) (w.2 0).2 0 w.1.kids.length) (.sl 0 (w.1.kids.map EE.toV)),.own (.slm (.is (w.2 1).1) (w.2 1).2 0 w.1.sub.length) (.sl 0 (w.1.sub.map EE.queryV))]
abbrev EQ.ov (w:EQ × (Nat→Nat × Nat)):V := .agg [.bool w.1.distinct,.slm (.is (w.2 0).1) (w.2 0).2 0 w.1.items.length,.slm (.is (w.2 1).1) (w.2 1).2 0 w.1.src.length,.slm (.is (w.2 2).1) (w.2 2).2 0 w.1.wher.length,.slm (.is (w.2 3).1) (w.2 3).2 0 w.1.order.length,.int .i64 w.1.limit]
abbrev EQ.ob (w:EQ × (Nat→Nat × Nat)):List BE:=[.own (.slm (.is (w.2 0).1) (w.2 0).2 0 w.1.items.length) (.sl 0 (w.1.items.map EItem.v)),.own (.slm (.is (w.2 1).1) (w.2 1).2 0 w.1.src.length) (.sl 0 (w.1.src.map ESrc.v)),.own (.slm (.is (w.2 2).1) (w.2 2).2 0 w.1.wher.length) (.sl 0 (w.1.wher.map EE.toV)),.own (.slm (.is (w.2 3).1) (w.2 3).2 0 w.1.order.length) (.sl 0 (w.1.order.map EE.sv))]
abbrev EE.D (P:Program) (g:FuncId) (b:V) (args:List V) (p:EE→Prop):Prop:=DrwB P g b args [] EE.ov EE.ob (fun w=>p w.1)
abbrev EQ.D (P:Program) (g:FuncId) (b:V) (args:List V) (p:EQ→Prop):Prop:=DrwB P g b args [] EQ.ov EQ.ob (fun w=>p w.1)
abbrev EE.KD (P:Program) (g:FuncId) (b:V) (args:List V) (p:List EE→Prop):Prop:=DrwB P g b args [] (fun w:List EE × Nat × Nat => .slm (.is w.2.1) w.2.2 0 w.1.length) (fun w=>[.own (.slm (.is w.2.1) w.2.2 0 w.1.length) (.sl 0 (w.1.map EE.toV))]) (fun w=>p w.1)
abbrev Rt (w:Nat) (e:EE):Prop:=wgt e.v≤w∧Sh e
theorem wgt_nilQ:wgt (.sl 0 (([]:List EQ).map EE.queryV))=0:=rfl
theorem wgt_nilEE:wgt (.sl 0 (([]:List EE).map EE.toV))=0:=rfl
theorem specl7Col_d {b:V} (hb:Bytes b):EE.D Try.prog 45 b [] (Rt 8):=by
 intro s H l i h hi hh
 refine LCalls.body0 Try.func45 rfl (by kernel_rfl) ?_
 replace hh:Hold s s.next (.cell l (curC b i h)::H):=hh
 repeat' first |(refine kAlloc ?_ ;refine LOps.allocH tT_ok hh rfl rfl ?_ ;intro s n hh) |(refine kStore ?_ ;first |(refine LOps.storeH tT_ok 0 hh rfl rfl rfl rfl rfl rfl rfl rfl rfl ?_ ;intro s hh) |(refine LOps.storeH tT_ok 1 hh rfl rfl rfl rfl rfl rfl rfl rfl rfl ?_ ;intro s hh) |(refine LOps.storeH tT_ok 2 hh rfl rfl rfl rfl rfl rfl rfl rfl rfl ?_ ;intro s hh)) |(refine kBsl ?_ ;first |(refine LOps.ans (d:=5) (AnsL.bslF tT_ok rfl rfl rfl rfl rfl rfl rfl rfl rfl) ?_) |(refine LOps.ans (d:=11) (AnsL.bslF tT_ok rfl rfl rfl rfl rfl rfl rfl rfl rfl) ?_)) |(refine kCallN 86 ?_ ;first |(refine LOps.drawH 0 rfl rfl ok86 hh rfl rfl ?_ (specl1Pick_d hb rfl (by simp)) ?_ ;(focus (first | assumption | omega)) ;intro s x i h hq hi hh ;try dsimp only) |(refine LOps.drawH 1 rfl rfl ok86 hh rfl rfl ?_ (specl1Pick_d hb rfl (by simp)) ?_ ;(focus (first | assumption | omega)) ;intro s x i h hq hi hh ;try dsimp only)) |(refine kCallN 39 ?_ ;first |(refine LOps.drawH 0 rfl rfl ok39 hh rfl rfl ?_ (specl1Once_d hb (by omega)) ?_ ;(focus (first | assumption | omega)) ;intro s x i h hq hi hh ;try dsimp only) |(refine LOps.drawH 1 rfl rfl ok39 hh rfl rfl ?_ (specl1Once_d hb (by omega)) ?_ ;(focus (first | assumption | omega)) ;intro s x i h hq hi hh ;try dsimp only)) |(refine kCallN 87 ?_ ;first |(refine LOps.drawH 0 rfl rfl ok87 hh rfl rfl ?_ (specl2Name_d hb) ?_ ;(focus (first | assumption | omega)) ;intro s x i h hq hi hh ;try dsimp only)) |(refine kOps ?_;first |(refine LOps.nil ?_) |(refine' LOps.ans (v := .agg _) (AnsL.buildZ tT_ok rfl rfl rfl rfl ?_) ?_;rotate_left 1;(focus ((repeat' first |(exact Fills.nil) |(refine' Fills.cons rfl rfl rfl rfl ?_));done))) |(refine LOps.ev tT_ok rfl ?_) |(refine kLoad ?_;first |(refine LOps.ans (AnsL.loadH tT_ok 1 hh rfl rfl rfl rfl) ?_))) |(refine kWL ?_;first |(refine WL.seq ?_) |(refine WL.region (by kernel_rfl) ?_) |(refine WL.skip ?_) |(refine WL.ret ?_) |(refine kCond ?_;first |(refine WL.cond rfl (fun h=>?_) (fun h=>?_)))) |(refine lthen_n ?_) |(refine' LPost.r1 (r := .cell 2 37) (.inl rfl) ?_ ?_;rotate_left 1;(focus (first |(exact Res1.cellH 2 tT_ok hh rfl rfl rfl rfl))))
 all_goals
   replace hh:=hh.nil0.nil0
   apply DrwB.fin (y:=(EE.mk _ _ _ ⟨_,_,_⟩ _ _ [] [],fun _=>(0,0))) (hh:=hh)
   case hv=>rfl
   case hi=>assumption
   case hs =>
     dsimp only [EE.ob,List.cons_append,List.nil_append]
     (repeat' first |(exact Sel.nil) |(exact Sel.refl _) |(refine' Sel.p ?_ ?_;rotate_left 1;(focus (((repeat' first |(exact Pick.here) |(refine' Pick.there ?_));done)))))
     (repeat' first |(exact Sel.refl _) |(refine Sel.drop ?_))
   case hp =>
     refine ⟨?_,.mk (by simp [shp,EE.kind]) (fun k hk=>by cases hk) (fun q hq=>by cases hq)⟩
     dsimp only
     rw [EE.wgt_eq]
     simp only [EE.value,EE.qual,EE.name,EE.kids,EE.sub,Val.wt,wgt_nilQ,wgt_nilEE,List.length_nil]
     have q1:=fun (x:List UInt8) h => @pick_len x [.str [116],.str [117],.str [118]] 1 h rfl
     have q2:=fun (x:List UInt8) h => @pick_len x [.str [97],.str [98],.str [99],.str [105,100],.str [110,97,109,101]] 4 h rfl
     first
       | omega
       |(have a1:=q2 _ (by assumption);omega)
       |(have a1:=q1 _ (by assumption);omega)
       |(have a1:=q1 _ (by assumption);have a2:=q2 _ (by assumption);omega)
theorem specl7Kids_d {b:V} {w:Nat} {deep m:Int} (he:EE.D Try.prog 25 b [.int .i64 (deep - 1)] (Rt w)) (hd:0≤deep∧deep≤100) (hm:0≤m∧m≤5):EE.KD Try.prog 47 b [.int .i64 deep,.int .i64 m] (fun es=>es.length=m.toNat∧∀ e∈es,Rt w e):=by
 intro s H l i h hi hh
 refine LCalls.body0 Try.func47 rfl (by kernel_rfl) ?_
 replace hh:Hold s s.next (.cell l (curC b i h)::H):=hh
 repeat' first |(refine kBsl ?_ ;first |(refine LOps.ans (AnsL.bslN tT_ok rfl rfl rfl rfl rfl) ?_)) |(refine kOps ?_;first |(refine LOps.nil ?_) |(refine LOps.ev tT_ok rfl ?_)) |(refine kWL ?_;first |(refine WL.seq ?_) |(refine WL.region (by kernel_rfl) ?_) |(refine WL.block ?_)) |(refine lthen_n ?_)
 replace hh:=hh.nil0
 refine WL.loopH (fun y:(List EE × Nat × Nat) × Int × Int=>(m - y.1.1.length).toNat) (fun y=>[(0,.ptr l 0),(1,.int .i64 deep),(2,.int .i64 m),(7,.slm (.is y.1.2.1) y.1.2.2 0 y.1.1.length),(8,.int .i64 (y.1.1.length:Int))])
   (fun y => .own (.slm (.is y.1.2.1) y.1.2.2 0 y.1.1.length) (.sl 0 (y.1.1.map EE.toV)) :: .cell l (curC b y.2.1 y.2.2)::H)
   (fun y=>((y.1.1.length:Int)≤m∧∀ e∈y.1.1,Rt w e)∧0≤y.2.1) (([],0,0),i,h) ⟨⟨by simp;omega,by simp⟩,hi⟩ ⟨rfl,rfl,rfl,rfl,rfl,trivial⟩ hh (Sel.refl _) (fun y s hI hh=>?_)
 obtain ⟨⟨es,c0,l0⟩,i,h⟩:=y
 obtain ⟨⟨hI,hwI⟩,hi⟩:=hI
 dsimp only at hI hwI hi hh ⊢
 by_cases hlt:(es.length:Int)<m
 · skip
   repeat' first |(refine kBsl ?_ ;first |(refine LOps.ans (AnsL.bslE tT_ok rfl rfl rfl rfl rfl rfl rfl rfl ?_) ?_ ;(focus ((repeat' first |(exact ElsH.of rfl));done)))) |(refine kApp ?_ ;first |(refine' LOps.appW tT_ok 3 rfl rfl rfl rfl rfl rfl rfl rfl rfl rfl hh ?_ ?_ ?_ (AppB.ofW ?_ rfl) ?_ ;rotate_left 2 ;(focus (first |(intro x hx;obtain ⟨y,_,rfl⟩:=List.mem_map.1 hx;first | rfl | exact PE.cells_len _ | exact PE.planV_len _ | exact EE.cells_len _ | exact EE.queryV_len _))) ;(focus ((repeat' first |(exact ConsOL.nil) |(exact ConsO.scal rfl) |(refine' ConsO.op ?_;((repeat' first |(exact Pick.here) |(refine' Pick.there ?_));done)) |(refine' ConsOL.cons ?_ ?_) |(refine' ConsO.agg ?_));done)) ;(focus ((repeat' first |(exact Elems.of rfl));done)) ;(focus (first | omega |(simp ;omega))) ;intro s c n hh)) |(refine kCallN 25 ?_ ;first |(refine LOps.drawB 1 rfl rfl ok25 hh (he) .nil rfl rfl ?_ ?_ ;(focus (first | assumption | omega)) ;intro s y i h hq hi hh ;try dsimp only [List.cons_append,List.nil_append] at hh)) |(refine kOps ?_;first |(refine LOps.nil ?_) |(refine LOps.ev tT_ok rfl ?_) |(refine kBin ?_;first |(refine LOps.ans (AnsL.add rfl rfl ?_) ?_;(focus (constructor <;> omega))) |(refine LOps.ans (AnsL.sub rfl rfl ?_) ?_;(focus (constructor <;> omega))))) |(refine kWL ?_;first |(refine WL.seq ?_) |(refine WL.region (by kernel_rfl) ?_) |(refine WL.block ?_) |(refine WL.skip ?_) |(refine kCond ?_;first |(refine WL.condT' rfl ?_ ?_;(focus (first |(exact decide_eq_true (by assumption))))))) |(refine lthen_n ?_) |(refine lblock_n ?_)
   rw [EE.snoc,show (es.map EE.toV).length+[EE.ov y].length=(es++[y.1]).length by simp] at hh
   refine lbackH.of ((es++[y.1],c,n),i,h) ?_ hh (Sel.refl _) ⟨⟨by simp;omega,fun e he=>?_⟩,by assumption⟩ (by simp;omega)
   · dsimp only
     repeat' first | exact SubL.nil |(refine SubL.mk rfl ?_ ?_) | rfl |(simp;omega) |(simp <;> fail)
   · rcases List.mem_append.1 he with he | he
     · exact hwI e he
     · rw [List.mem_singleton] at he;subst he;exact hq
 · skip
   repeat' first |(refine kOps ?_;first |(refine LOps.nil ?_) |(refine LOps.ev tT_ok rfl ?_)) |(refine kWL ?_;first |(refine WL.seq ?_) |(refine WL.region (by kernel_rfl) ?_) |(refine WL.exit ?_) |(refine WL.ret ?_) |(refine kCond ?_;first |(refine WL.condF' rfl ?_ ?_;(focus (first |(exact decide_eq_false (by assumption))))))) |(refine lthen_n ?_) |(refine lthen_e ?_) |(refine lblock_e ?_) |(refine lbackH_e ?_) |(refine LPost.r1 (r := .tmp 6) (.inl rfl) (Res1.tmp rfl) ?_)
   exact DrwB.fin (y:=(es,c0,l0)) ⟨by show es.length=_;omega,hwI⟩ rfl hi hh (Sel.refl _)
end Go.Proofs.Ytikghanejpigjaa

namespace Go.Proofs.Ytikghanejpigjaa
open Go
set_option linter.unusedSimpArgs false
set_option linter.unusedVariables false
def eqAll {α : Type} (p : α → α → Bool):List α → List α → Bool
 | x::xs,y::ys=>p x y&&eqAll p xs ys
 | _,_=>true
def same {α : Type} (p : α → α → Bool) (a b:List α):Bool:=decide (a.length=b.length)&&eqAll p a b
theorem eqAll_drop {α : Type} {p : α → α → Bool} {a b:List α} {i:Nat} (h1:i<a.length) (h2:i<b.length):eqAll p (a.drop i) (b.drop i)=(p a[i] b[i]&&eqAll p (a.drop (i+1)) (b.drop (i+1))):=by
 rw [List.drop_eq_getElem_cons h1,List.drop_eq_getElem_cons h2,eqAll]
theorem same_ne {α : Type} {p : α → α → Bool} {a b:List α} (h:¬ (a.length:Int)=b.length):same p a b=false:=by
 unfold same
 rw [decide_eq_false (by omega)];rfl
theorem same_eq {α : Type} {p : α → α → Bool} {a b:List α} (h:(a.length:Int)=b.length):same p a b=eqAll p (a.drop 0) (b.drop 0):=by
 unfold same
 rw [decide_eq_true (by omega)];rfl
theorem eqAll_end {α : Type} {p : α → α → Bool} {a b:List α} {i:Nat} (h:a.length≤i):eqAll p (a.drop i) (b.drop i)=true:=by rw [List.drop_of_length_le h];unfold eqAll;rfl
def valEq (a b:Val):Bool:=decide (a.kind=b.kind)&&(decide (a.num=b.num)&&(decide (a.text=b.text)&&true))
def colEq (a b:Col):Bool:=decide (a.name=b.name)&&(decide (a.type=b.type)&&true)
def intEq (a b:Int):Bool:=decide (a=b)
def strEq (a b:List UInt8):Bool:=decide (a=b)
def rowEq (a b:List Val):Bool:=same valEq a b
def dataEq (a b:Data):Bool:=same rowEq a.rows b.rows
def tabEq (a b:Tab):Bool:=decide (a.name=b.name)&&same colEq a.cols b.cols
end Go.Proofs.Ytikghanejpigjaa
