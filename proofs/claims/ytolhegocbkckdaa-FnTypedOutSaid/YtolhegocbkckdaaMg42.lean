/-
  Draws whose owned answer is frozen at the end; calls that answer plain values from what is lent; children of typed trees.
  Typed trees of plans drawn from a string of bytes: children, trees.
  Own work; no condition.
-/
import Derived.Test.YtolhegocbkckdaaDTd
import Derived.Test.YtolhegocbkckdaaDCatD
namespace Go.Proofs.Ytolhegocbkckdaa
open Go
set_option linter.unusedSimpArgs false
set_option linter.unusedVariables false
theorem DrwB.frz {P:Program} {g:FuncId} {b:V} {args:List V} {β : Type} {F : β → V} {B : β → List BE} {p : β → Prop} {f : β → V} (h:DrwB P g b args [] F B p) (hc:∀ (y : β) (H:List BE),∃ H2,ConsO (B y++H) (F y) (f y) H2∧Sel H2 H):Drw P g b args f p:=by
 intro s H l i h0 hi hh
 refine VCalls.turn (h s H l i h0 hi hh) fun v t _ ⟨y,s',i',h',h1,h2,h3,h4,h5⟩=>?_
 subst h4 h2
 obtain ⟨H2,k1,k2⟩:=hc y (.cell l (curC b i' h')::H)
 obtain ⟨s2,k3,k4⟩:=((h5.pack k1).sel (.cons 0 rfl rfl k2)).frz
 exact ⟨f y,s2.ext [],k3,y,s2,i',h',h1,rfl,h3,rfl,k4⟩
theorem specl16Right_f {b:V} (hb:Bytes b):Drw Try.prog 56 b [] (fun y:List Tab × Nat × Nat=>(⟨y.1⟩:Cat).toV) (fun y=>(0<y.1.length∧y.1.length≤3)∧∀ t∈y.1,t.small) :=
 (specl16Right_d hb).frz fun y H=>⟨H,.agg (.cons (.own 0 rfl rfl) .nil),Sel.refl _⟩
end Go.Proofs.Ytolhegocbkckdaa

namespace Go.Proofs.Ytolhegocbkckdaa
open Go
set_option linter.unusedSimpArgs false
set_option linter.unusedVariables false
abbrev catV (ts:List Tab):V := .agg [.sl 0 (ts.map Tab.toV)]
theorem specl20Kids_d {b:V} {w:Nat} {ts:List Tab} {env:List (List Int)} {ty deep m:Int} (he:PE.D Try.prog 58 b [catV ts,envW env,.int .i64 ty,.int .i64 (deep - 1)] (fun e=>wgt e.v≤w)) (hd:0≤deep∧deep≤100) (hm:0≤m∧m≤5) :
   PE.KD Try.prog 97 b [catV ts,envW env,.int .i64 ty,.int .i64 deep,.int .i64 m] (fun es=>es.length=m.toNat∧∀ e∈es,wgt e.v≤w):=by
 intro s H l i h hi hh
 refine LCalls.body0 Try.func97 rfl (by kernel_rfl) ?_
 replace hh:Hold s s.next (.cell l (curC b i h)::H):=hh
 repeat' first |(refine kBox ?_ ;first |(refine LOps.boxH hh rfl rfl ?_ ;intro s n hh)) |(refine kBsl ?_ ;first |(refine LOps.ans (AnsL.bslN tT_ok rfl rfl rfl rfl rfl) ?_)) |(refine kOps ?_;first |(refine LOps.nil ?_) |(refine LOps.ev tT_ok rfl ?_)) |(refine kWL ?_;first |(refine WL.seq ?_) |(refine WL.region (by kernel_rfl) ?_) |(refine WL.block ?_)) |(refine lthen_n ?_)
 obtain ⟨nb,rfl⟩:∃ nb,nb=n:=⟨n,rfl⟩
 replace hh:=hh.nil0
 refine WL.loopH (fun y:(List PE × Nat × Nat) × Int × Int=>(m - y.1.1.length).toNat) (fun y=>[(0,.ptr l 0),(2,envW env),(3,.int .i64 ty),(4,.int .i64 deep),(5,.int .i64 m),(7,.ptr nb 0),(13,.slm (.is y.1.2.1) y.1.2.2 0 y.1.1.length),(14,.int .i64 (y.1.1.length:Int))])
   (fun y => .own (.slm (.is y.1.2.1) y.1.2.2 0 y.1.1.length) (.sl 0 (y.1.1.map PE.toV)) :: .cell l (curC b y.2.1 y.2.2) :: .cell nb [.sl 0 (ts.map Tab.toV)]::H)
   (fun y=>((y.1.1.length:Int)≤m∧∀ e∈y.1.1,wgt e.v≤w)∧0≤y.2.1) (([],0,0),i,h) ⟨⟨by simp;omega,by simp⟩,hi⟩ ⟨rfl,rfl,rfl,rfl,rfl,rfl,rfl,rfl,trivial⟩ hh (by (repeat' first |(exact Sel.nil) |(exact Sel.refl _) |(refine' Sel.p ?_ ?_;rotate_left 1;(focus (((repeat' first |(exact Pick.here) |(refine' Pick.there ?_));done)))))) (fun y s hI hh=>?_)
 obtain ⟨⟨es,c0,l0⟩,i,h⟩:=y
 obtain ⟨⟨hI,hwI⟩,hi⟩:=hI
 dsimp only at hI hwI hi hh ⊢
 by_cases hlt:(es.length:Int)<m
 · skip
   repeat' first |(refine kBsl ?_ ;first |(refine LOps.ans (AnsL.bslE tT_ok rfl rfl rfl rfl rfl rfl rfl rfl ?_) ?_ ;(focus ((repeat' first |(exact ElsH.of rfl));done)))) |(refine kApp ?_ ;first |(refine' LOps.appW tT_ok 3 rfl rfl rfl rfl rfl rfl rfl rfl rfl rfl hh ?_ ?_ ?_ (AppB.of ?_ rfl) ?_ ;rotate_left 2 ;(focus (first |(intro x hx;obtain ⟨y,_,rfl⟩:=List.mem_map.1 hx;first | rfl | exact PE.cells_len _ | exact PE.planV_len _))) ;(focus ((repeat' first |(exact ConsOL.nil) |(exact ConsO.scal rfl) |(refine' ConsO.op ?_;((repeat' first |(exact Pick.here) |(refine' Pick.there ?_));done)) |(refine' ConsOL.cons ?_ ?_) |(refine' ConsO.agg ?_));done)) ;(focus ((repeat' first |(exact Elems.of rfl));done)) ;(focus (first | omega |(simp ;omega))) ;intro s c n hh)) |(refine kCallN 58 ?_ ;first |(refine LOps.drawB 1 rfl rfl ok58 hh (he) .nil rfl rfl ?_ ?_ ;(focus (first | assumption | omega)) ;intro s y i h hq hi hh ;try dsimp only [List.cons_append,List.nil_append] at hh)) |(refine kOps ?_;first |(refine LOps.nil ?_) |(refine LOps.ev tT_ok rfl ?_) |(refine kLoad ?_;first |(refine LOps.ans (AnsL.loadH tT_ok 2 hh rfl rfl rfl rfl) ?_)) |(refine kBin ?_;first |(refine LOps.ans (AnsL.add rfl rfl ?_) ?_;(focus (constructor <;> omega))) |(refine LOps.ans (AnsL.sub rfl rfl ?_) ?_;(focus (constructor <;> omega))))) |(refine kWL ?_;first |(refine WL.seq ?_) |(refine WL.region (by kernel_rfl) ?_) |(refine WL.block ?_) |(refine WL.skip ?_) |(refine kCond ?_;first |(refine WL.condT' rfl ?_ ?_;(focus (first |(exact decide_eq_true (by assumption))))))) |(refine lthen_n ?_) |(refine lblock_n ?_)
   rw [PE.snoc,show (es.map PE.toV).length+[PE.ov y].length=(es++[y.1]).length by simp] at hh
   refine lbackH.of ((es++[y.1],c,n),i,h) ?_ hh (Sel.refl _) ⟨⟨by simp;omega,fun e he=>?_⟩,by assumption⟩ (by simp;omega)
   · dsimp only
     repeat' first | exact SubL.nil |(refine SubL.mk rfl ?_ ?_) | rfl |(simp;omega) |(simp <;> fail)
   · rcases List.mem_append.1 he with he | he
     · exact hwI e he
     · rw [List.mem_singleton] at he;subst he;exact hq
 · skip
   repeat' first |(refine kOps ?_;first |(refine LOps.nil ?_) |(refine LOps.ev tT_ok rfl ?_)) |(refine kWL ?_;first |(refine WL.seq ?_) |(refine WL.region (by kernel_rfl) ?_) |(refine WL.exit ?_) |(refine WL.ret ?_) |(refine kCond ?_;first |(refine WL.condF' rfl ?_ ?_;(focus (first |(exact decide_eq_false (by assumption))))))) |(refine lthen_n ?_) |(refine lthen_e ?_) |(refine lblock_e ?_) |(refine lbackH_e ?_) |(refine LPost.r1 (r := .tmp 12) (.inl rfl) (Res1.tmp rfl) ?_)
   exact DrwB.fin (y:=(es,c0,l0)) ⟨by show es.length=_;omega,hwI⟩ rfl hi hh (.cons 0 rfl rfl (.cons 0 rfl rfl (.drop (Sel.refl _))))
set_option maxHeartbeats 4000000 in
theorem specl20Typed_r {b:V} (hb:Bytes b) {ts:List Tab} {env:List (List Int)} (hE:EnvS env) {ty deep:Int} {w W:Nat} (hd:0≤deep∧deep≤100) (hW:8≤W∧(1≤deep→4*(w+1)+8≤W))
   (hk:1≤deep→∀ m:Int,0≤m∧m≤5→PE.KD Try.prog 97 b [catV ts,envW env,.int .i64 ty,.int .i64 deep,.int .i64 m] (fun es=>es.length=m.toNat∧∀ e∈es,wgt e.v≤w))
   (hbl:1≤deep→PE.D Try.prog 98 b [catV ts,envW env,.int .i64 deep] (fun e=>wgt e.v≤W)) :
   PE.D Try.prog 58 b [catV ts,envW env,.int .i64 ty,.int .i64 deep] (fun e=>wgt e.v≤W):=by
 intro s H l i h hi hh
 replace hh:Hold s s.next (.cell l (curC b i h)::H):=hh
 refine LCalls.body0 Try.func58 rfl (by kernel_rfl) ?_
 by_cases hz:deep≤0
 · skip
   repeat' first |(refine kBox ?_ ;first |(refine LOps.boxH hh rfl rfl ?_ ;intro s n hh)) |(refine kAlloc ?_ ;refine LOps.allocH tT_ok hh rfl rfl ?_ ;intro s n hh) |(refine kStore ?_ ;first |(refine LOps.storeH tT_ok 1 hh rfl rfl rfl rfl rfl rfl rfl rfl rfl ?_ ;intro s hh) |(refine LOps.storeH tT_ok 3 hh rfl rfl rfl rfl rfl rfl rfl rfl rfl ?_ ;intro s hh)) |(refine kCallN 72 ?_ ;first |(refine LOps.drawH 2 rfl rfl ok72 hh rfl rfl ?_ (specl1Once_d hb (by omega)) ?_ ;(focus (first | assumption | omega)) ;intro s x i h hq hi hh ;try dsimp only)) |(refine kCallN 95 ?_ ;first |(refine LOps.drawH 0 rfl rfl ok95 hh rfl rfl ?_ (specl20Lit_d hb _) ?_ ;(focus (first | assumption | omega)) ;intro s x i h hq hi hh ;try dsimp only)) |(refine kCallN 96 ?_ ;first |(refine LOps.drawB 0 rfl rfl ok96 hh (specl20Col_d hb hE _) .nil rfl rfl ?_ ?_ ;(focus (first | assumption | omega)) ;intro s y i h hq hi hh ;try dsimp only [List.cons_append,List.nil_append] at hh)) |(refine kOps ?_;first |(refine LOps.nil ?_) |(refine kG ?_;first |(refine LOps.gF rfl rfl rfl ?_) |(refine LOps.gD true rfl rfl rfl ?_ ?_;(focus (first |(exact decide_eq_true (by assumption)))))) |(refine' LOps.ans (v := .agg _) (AnsL.buildZ tT_ok rfl rfl rfl rfl ?_) ?_;rotate_left 1;(focus ((repeat' first |(exact Fills.nil) |(refine' Fills.cons rfl rfl rfl rfl ?_));done))) |(refine LOps.ev tT_ok rfl ?_)) |(refine kWL ?_;first |(refine WL.seq ?_) |(refine WL.region (by kernel_rfl) ?_) |(refine WL.skip ?_) |(refine WL.ret ?_) |(refine kCond ?_;first |(refine WL.condT rfl ?_) |(refine WL.cond rfl (fun h=>?_) (fun h=>?_)))) |(refine lthen_n ?_) |(refine lthen_r ?_) |(refine' LPost.r1 (r := .cell 10 29) (.inl rfl) ?_ ?_;rotate_left 1;(focus (first | exact Res1.cellH 0 tT_ok hh rfl rfl rfl rfl | exact Res1.cellH 1 tT_ok hh rfl rfl rfl rfl | exact Res1.cellH 2 tT_ok hh rfl rfl rfl rfl | exact Res1.cellH 3 tT_ok hh rfl rfl rfl rfl | exact Res1.cellH 4 tT_ok hh rfl rfl rfl rfl | exact Res1.cellH 5 tT_ok hh rfl rfl rfl rfl | exact Res1.cellH 6 tT_ok hh rfl rfl rfl rfl | exact Res1.cellH 7 tT_ok hh rfl rfl rfl rfl | exact Res1.cellHW 0 tT_ok hh rfl rfl rfl rfl | exact Res1.cellHW 1 tT_ok hh rfl rfl rfl rfl | exact Res1.cellHW 2 tT_ok hh rfl rfl rfl rfl | exact Res1.cellHW 3 tT_ok hh rfl rfl rfl rfl | exact Res1.cellHW 4 tT_ok hh rfl rfl rfl rfl | exact Res1.cellHW 5 tT_ok hh rfl rfl rfl rfl | exact Res1.cellHW 6 tT_ok hh rfl rfl rfl rfl | exact Res1.cellHW 7 tT_ok hh rfl rfl rfl rfl)))
   all_goals
     first
     | skip
       replace hh:=hh.nil0.nil0
       apply DrwB.fin (y:=(PE.mk _ _ _ ⟨_,_,_⟩ _ _ [] [],fun _=>(0,0))) (hh:=hh)
       case hv=>rfl
       case hi=>assumption
       case hs =>
         dsimp only [PE.ob,List.cons_append,List.nil_append]
         (repeat' first |(exact Sel.nil) |(exact Sel.refl _) |(refine' Sel.p ?_ ?_;rotate_left 1;(focus (((repeat' first |(exact Pick.here) |(refine' Pick.there ?_));done)))))
         (repeat' first |(exact Sel.refl _) |(refine Sel.drop ?_))
       case hp =>
         dsimp only
         rw [PE.wgt_eq]
         simp only [PE.value,PE.kids,PE.sub,wgt_nilP,wgt_nilE,List.length_nil]
         first | omega |(have hq2:x.text.length≤2:=hq;omega)
     | skip
       apply DrwB.fin (y:=y) (hh:=hh)
       case hv=>rfl
       case hi=>assumption
       case hs =>
         dsimp only [PE.ob,List.cons_append,List.nil_append]
         (repeat' first |(exact Sel.nil) |(exact Sel.refl _) |(refine' Sel.p ?_ ?_;rotate_left 1;(focus (((repeat' first |(exact Pick.here) |(refine' Pick.there ?_));done)))))
         (repeat' first |(exact Sel.refl _) |(refine Sel.drop ?_))
       case hp =>
         first | exact Nat.le_trans hq (by omega) |(dsimp only at hq ⊢;omega)
 replace hk:=hk (by omega)
 replace hbl:=hbl (by omega)
 replace hW:8≤W∧4*(w+1)+8≤W:=⟨hW.1,hW.2 (by omega)⟩
 repeat' first |(refine kBox ?_ ;first |(refine LOps.boxH hh rfl rfl ?_ ;intro s n hh)) |(refine kAlloc ?_ ;refine LOps.allocH tT_ok hh rfl rfl ?_ ;intro s n hh) |(refine kStore ?_ ;first |(refine LOps.storeH tT_ok 1 hh rfl rfl rfl rfl rfl rfl rfl rfl rfl ?_ ;intro s hh) |(refine LOps.storeH tT_ok 2 hh rfl rfl rfl rfl rfl rfl rfl rfl rfl ?_ ;intro s hh) |(refine LOps.storeH tT_ok 3 hh rfl rfl rfl rfl rfl rfl rfl rfl rfl ?_ ;intro s hh)) |(refine kCallN 59 ?_ ;first |(refine LOps.drawH 0 rfl rfl ok59 hh rfl rfl ?_ (specl1Below_d hb (by omega)) ?_ ;(focus (first | assumption | omega)) ;intro s x i h hq hi hh ;try dsimp only)) |(refine kCallN 72 ?_ ;first |(refine LOps.drawH 0 rfl rfl ok72 hh rfl rfl ?_ (specl1Once_d hb (by omega)) ?_ ;(focus (first | assumption | omega)) ;intro s x i h hq hi hh ;try dsimp only) |(refine LOps.drawH 2 rfl rfl ok72 hh rfl rfl ?_ (specl1Once_d hb (by omega)) ?_ ;(focus (first | assumption | omega)) ;intro s x i h hq hi hh ;try dsimp only)) |(refine kCallN 95 ?_ ;first |(refine LOps.drawH 0 rfl rfl ok95 hh rfl rfl ?_ (specl20Lit_d hb _) ?_ ;(focus (first | assumption | omega)) ;intro s x i h hq hi hh ;try dsimp only)) |(refine kCallN 96 ?_ ;first |(refine LOps.drawB 0 rfl rfl ok96 hh (specl20Col_d hb hE _) .nil rfl rfl ?_ ?_ ;(focus (first | assumption | omega)) ;intro s y i h hq hi hh ;try dsimp only [List.cons_append,List.nil_append] at hh)) |(refine kCallN 97 ?_ ;first |(refine LOps.drawB 0 rfl rfl ok97 hh (hk _ (by omega)) .nil rfl rfl ?_ ?_ ;(focus (first | assumption | omega)) ;intro s y i h hq hi hh ;try dsimp only [List.cons_append,List.nil_append] at hh)) |(refine kCallN 98 ?_ ;first |(refine LOps.drawB 0 rfl rfl ok98 hh (hbl) .nil rfl rfl ?_ ?_ ;(focus (first | assumption | omega)) ;intro s y i h hq hi hh ;try dsimp only [List.cons_append,List.nil_append] at hh)) |(refine kOps ?_;first |(refine LOps.nil ?_) |(refine kG ?_;first |(refine LOps.gT rfl rfl rfl ?_) |(refine LOps.gD false rfl rfl rfl ?_ ?_;(focus (first |(exact decide_eq_false (by assumption)))))) |(refine' LOps.ans (v := .agg _) (AnsL.buildZ tT_ok rfl rfl rfl rfl ?_) ?_;rotate_left 1;(focus ((repeat' first |(exact Fills.nil) |(refine' Fills.cons rfl rfl rfl rfl ?_));done))) |(refine LOps.ev tT_ok rfl ?_) |(refine kLoad ?_;first |(refine LOps.ans (AnsL.loadH tT_ok 2 hh rfl rfl rfl rfl) ?_))) |(refine kWL ?_;first |(refine WL.seq ?_) |(refine WL.region (by kernel_rfl) ?_) |(refine WL.drawn (id:=9) [0,3,4,5,6,7,1,2,8,9,10] [1,8,10] [[],[0],[0,1],[],[],[],[],[],[0,1,3,4,5,6,7],[0,1,2,3,4,5,6,7,8],[0,1,2,3,4,5,6,7,8,9]] (by kernel_rfl) (by kernel_rfl) ?_) |(refine WL.block ?_) |(refine WL.skip ?_) |(refine WL.ret ?_) |(refine kCond ?_;first |(refine WL.cond rfl (fun h=>?_) (fun h=>?_)))) |(refine kDr ?_;first |(refine LDr.nil ?_) |(refine' LDr.fl (v := .agg _) rfl rfl (AnsL.buildZ tT_ok rfl rfl rfl rfl ?_) ?_;rotate_left 1;(focus ((repeat' first |(exact Fills.nil) |(refine' Fills.cons rfl rfl rfl rfl ?_));done))) |(refine LDr.fl rfl rfl (.ev tT_ok rfl) ?_) |(refine kDLoad rfl ?_;first |(refine LDr.fl rfl rfl (AnsL.loadH tT_ok 2 hh rfl rfl rfl rfl) ?_)) |(refine kDBin rfl ?_;first |(refine LDr.fl rfl rfl (AnsL.add rfl rfl ?_) ?_;(focus (constructor <;> omega)))) |(refine LDr.eff rfl rfl rfl ?_)) |(refine lthen_n ?_) |(refine lthen_r ?_) |(refine lblock_n ?_) |(refine lblock_r ?_) |(refine' LPost.r1 (r := .cell 10 29) (.inl rfl) ?_ ?_;rotate_left 1;(focus (first | exact Res1.cellH 0 tT_ok hh rfl rfl rfl rfl | exact Res1.cellH 1 tT_ok hh rfl rfl rfl rfl | exact Res1.cellH 2 tT_ok hh rfl rfl rfl rfl | exact Res1.cellH 3 tT_ok hh rfl rfl rfl rfl | exact Res1.cellH 4 tT_ok hh rfl rfl rfl rfl | exact Res1.cellH 5 tT_ok hh rfl rfl rfl rfl | exact Res1.cellH 6 tT_ok hh rfl rfl rfl rfl | exact Res1.cellH 7 tT_ok hh rfl rfl rfl rfl | exact Res1.cellHW 0 tT_ok hh rfl rfl rfl rfl | exact Res1.cellHW 1 tT_ok hh rfl rfl rfl rfl | exact Res1.cellHW 2 tT_ok hh rfl rfl rfl rfl | exact Res1.cellHW 3 tT_ok hh rfl rfl rfl rfl | exact Res1.cellHW 4 tT_ok hh rfl rfl rfl rfl | exact Res1.cellHW 5 tT_ok hh rfl rfl rfl rfl | exact Res1.cellHW 6 tT_ok hh rfl rfl rfl rfl | exact Res1.cellHW 7 tT_ok hh rfl rfl rfl rfl))) |(refine And.intro ?_ ?_) |(exact StsL.nil) |(refine StsL.cons ?_ ?_) |(refine StL.fl rfl rfl (.ev tT_ok rfl)) |(refine StL.fl rfl rfl (AnsL.loadH tT_ok 2 hh rfl rfl rfl rfl)) |(refine StL.fl rfl rfl (AnsL.add rfl rfl ?_);(focus (constructor <;> omega)))
 all_goals
   first
     | skip
       replace hh:=hh.nil0.nil0
       apply DrwB.fin (y:=(PE.mk _ _ _ ⟨_,_,_⟩ _ _ [] [],fun _=>(0,0))) (hh:=hh)
       case hv=>rfl
       case hi=>assumption
       case hs =>
         dsimp only [PE.ob,List.cons_append,List.nil_append]
         (repeat' first |(exact Sel.nil) |(exact Sel.refl _) |(refine' Sel.p ?_ ?_;rotate_left 1;(focus (((repeat' first |(exact Pick.here) |(refine' Pick.there ?_));done)))))
         (repeat' first |(exact Sel.refl _) |(refine Sel.drop ?_))
       case hp =>
         dsimp only
         rw [PE.wgt_eq]
         simp only [PE.value,PE.kids,PE.sub,wgt_nilP,wgt_nilE,List.length_nil]
         first | omega |(have hq2:x.text.length≤2:=hq;omega)
     | skip
       replace hh:=hh.nil0
       apply DrwB.fin (y:=(PE.mk _ _ _ ⟨_,_,_⟩ _ _ y.1 [],f2 y.2 (0,0))) (hh:=hh)
       case hv=>rfl
       case hi=>assumption
       case hs =>
         dsimp only [PE.ob,List.cons_append,List.nil_append]
         (repeat' first |(exact Sel.nil) |(exact Sel.refl _) |(refine' Sel.p ?_ ?_;rotate_left 1;(focus (((repeat' first |(exact Pick.here) |(refine' Pick.there ?_));done)))))
         (repeat' first |(exact Sel.refl _) |(refine Sel.drop ?_))
       case hp =>
         have g1:y.1.length≤4:=by have:=hq.1;omega
         have g2:=kids_wgt hq.2
         have g3:=Nat.mul_le_mul_right (w+1) g1
         dsimp only
         rw [PE.wgt_eq]
         simp only [PE.value,PE.kids,PE.sub,wgt_nilP,List.length_nil]
         omega
     | skip
       apply DrwB.fin (y:=y) (hh:=hh)
       case hv=>rfl
       case hi=>assumption
       case hs =>
         dsimp only [PE.ob,List.cons_append,List.nil_append]
         (repeat' first |(exact Sel.nil) |(exact Sel.refl _) |(refine' Sel.p ?_ ?_;rotate_left 1;(focus (((repeat' first |(exact Pick.here) |(refine' Pick.there ?_));done)))))
         (repeat' first |(exact Sel.refl _) |(refine Sel.drop ?_))
       case hp =>
         first | exact Nat.le_trans hq (by omega) |(dsimp only at hq ⊢;omega)
end Go.Proofs.Ytolhegocbkckdaa
