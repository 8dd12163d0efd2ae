/-
 Queries drawn, in memory of one's own. Own work; no condition.
-/
import Derived.Test.YtikghanejpigjaaMg20
namespace Go.Proofs.Ytikghanejpigjaa
open Go
set_option linter.unusedSimpArgs false
set_option linter.unusedVariables false
theorem EItem.snoc (es:List EItem) (st:Bool) (q a:List UInt8) (x:EE):es.map EItem.v++[V.agg [.bool st,.str q,.int .i64 x.kind,.int .i64 x.op,.bool x.nt,.int .i64 x.value.kind,.int .i64 x.value.num,.str x.value.text,.str x.qual,.str x.name,.sl 0 (x.kids.map EE.toV),.sl 0 (x.sub.map EE.queryV),.str a]]=(es++[(ItemOf.mk st q x a)]).map EItem.v:=by
 rw [List.map_append];rfl
abbrev EE.zero:EE := .mk 0 0 false ⟨0,0,[]⟩ [] [] [] []
theorem EItem.snoc0 (es:List EItem) (st:Bool) (q a:List UInt8):es.map EItem.v++[V.agg [.bool st,.str q,.int .i64 0,.int .i64 0,.bool false,.int .i64 0,.int .i64 0,.str [],.str [],.str [],.sl 0 [],.sl 0 [],.str a]]=(es++[(ItemOf.mk st q EE.zero a)]).map EItem.v:=EItem.snoc es st q a EE.zero
theorem ESrc.snoc (es:List ESrc) (t a:List UInt8) (on:List EE):es.map ESrc.v++[V.agg [.str t,.str a,.sl 0 (on.map EE.toV)]]=(es++[(SrcOf.mk t a on)]).map ESrc.v:=by rw [List.map_append];rfl
theorem ESrc.snoc0 (es:List ESrc) (t a:List UInt8):es.map ESrc.v++[V.agg [.str t,.str a,.sl 0 []]]=(es++[(SrcOf.mk t a [])]).map ESrc.v:=ESrc.snoc es t a []
def ItR (w:Nat) (x:EItem):Prop:=x.qual.length≤1∧x.als.length≤6∧wgt x.e.v≤w∧(x.star=false→Sh x.e)
def SrR (w:Nat) (x:ESrc):Prop:=x.table.length≤1∧x.als.length≤6∧x.on.length≤1∧∀ e∈x.on,Rt w e
theorem all_snoc {α : Type} {p : α → Prop} {l:List α} {x : α} (h:∀ y∈l,p y) (hx:p x):∀ y∈l++[x],p y:=fun y hy=>by
 rcases List.mem_append.1 hy with hy | hy
 · exact h y hy
 · rw [List.mem_singleton] at hy;subst hy;exact hx
theorem ESrc.snoc1 (es:List ESrc) (t a:List UInt8) (x:EE):es.map ESrc.v++[V.agg [.str t,.str a,.sl 0 [V.agg [.int .i64 x.kind,.int .i64 x.op,.bool x.nt,.int .i64 x.value.kind,.int .i64 x.value.num,.str x.value.text,.str x.qual,.str x.name,.sl 0 (x.kids.map EE.toV),.sl 0 (x.sub.map EE.queryV)]]]]=(es++[(SrcOf.mk t a [x])]).map ESrc.v:=by rw [EE.q_eq,List.map_append];rfl
theorem query_sh {w:Nat} {ds:Bool} {is:List EItem} {ss:List ESrc} {ws:List EE} {rs:List (EE × Bool)} {lim:Int} (h1:∀ x∈is,ItR w x) (h2:∀ x∈ss,SrR w x) (h3:∀ e∈ws,Sh e) (h4:∀ e∈rs,Sh e.1):ShQ (⟨ds,is,ss,ws,rs,lim⟩:EQ):=by
 intro k hk
 simp only [QueryOf.exprs,List.mem_append,List.mem_map,List.mem_filter,List.mem_flatten] at hk
 rcases hk with ((⟨x,⟨h5,h6⟩,rfl⟩ | ⟨q,⟨y,h5,rfl⟩,h6⟩) | h5) | ⟨x,h5,rfl⟩
 · exact (h1 x h5).2.2.2 (by simpa using h6)
 · exact ((h2 y h5).2.2.2 k h6).2
 · exact h3 k h5
 · exact h4 x h5
theorem wgt_zero:wgt EE.zero.v=0:=rfl
set_option maxHeartbeats 4000000 in
theorem specl7Query_d {b:V} (hb:Bytes b) {w:Nat} {deep:Int} (he:EE.D Try.prog 25 b [.int .i64 deep] (Rt w)) (hd:0≤deep∧deep≤99) :
   EQ.D Try.prog 48 b [.int .i64 deep] (fun q=>wgt q.v≤64+6*w∧ShQ q):=by
 have p1:∀ x:List UInt8,V.str x∈[V.str [116],.str [117]]→x.length≤1:=fun x h=>pick_len h rfl
 have p2:∀ x:List UInt8,V.str x∈[V.str [116],.str [117],.str [118]]→x.length≤1:=fun x h=>pick_len h rfl
 intro s H l i h hi hh
 replace hh:Hold s s.next (.cell l (curC b i h)::H):=hh
 refine LCalls.body0 Try.func48 rfl (by kernel_rfl) ?_
 repeat' first |(refine kAlloc ?_ ;refine LOps.allocH tT_ok hh rfl rfl ?_ ;intro s n hh) |(refine kStore ?_ ;first |(refine LOps.storeH tT_ok 0 hh rfl rfl rfl rfl rfl rfl rfl rfl rfl ?_ ;intro s hh)) |(refine kCallN 26 ?_ ;first |(refine LOps.drawH 1 rfl rfl ok26 hh rfl rfl ?_ (specl1Below_d hb (by omega)) ?_ ;(focus (first | assumption | omega)) ;intro s x i h hq hi hh ;try dsimp only)) |(refine kCallN 39 ?_ ;first |(refine LOps.drawH 1 rfl rfl ok39 hh rfl rfl ?_ (specl1Once_d hb (by omega)) ?_ ;(focus (first | assumption | omega)) ;intro s x i h hq hi hh ;try dsimp only)) |(refine kOps ?_;first |(refine LOps.nil ?_) |(refine' LOps.ans (v := .agg _) (AnsL.buildZ tT_ok rfl rfl rfl rfl ?_) ?_;rotate_left 1;(focus ((repeat' first |(exact Fills.nil) |(refine' Fills.cons rfl rfl rfl rfl ?_));done))) |(refine LOps.ev tT_ok rfl ?_) |(refine kBin ?_;first |(refine LOps.ans (AnsL.add rfl rfl ?_) ?_;(focus (constructor <;> omega))))) |(refine kWL ?_;first |(refine WL.seq ?_) |(refine WL.region (by kernel_rfl) ?_) |(refine WL.block ?_)) |(refine lthen_n ?_)
 rename_i nr hh3 s2 ds i0 h0 hq0 hi0 hh2 s1 hh1 s0 hh0
 replace hh:=hh.nil0
 refine WL.loopH (fun y:(List EItem × Nat × Nat) × Int × Int=>(1+x - y.1.1.length).toNat)
   (fun y=>[(0,.ptr l 0),(1,.int .i64 deep),(4,.ptr nr 0),(5,.ptr n 0),(6,.int .i64 (1+x)),(7,.int .i64 (y.1.1.length:Int))])
   (fun y => .own (.slm (.is y.1.2.1) y.1.2.2 0 y.1.1.length) (.sl 0 (y.1.1.map EItem.v)) :: .cell l (curC b y.2.1 y.2.2) :: .cell n [.bool ds,.slm (.is y.1.2.1) y.1.2.2 0 y.1.1.length,.slm (.is 0) 0 0 0,.slm (.is 0) 0 0 0,.slm (.is 0) 0 0 0,.int .i64 (-1)] :: .cell nr [.bool false,.nilsl,.nilsl,.nilsl,.nilsl,.int .i64 0]::H)
   (fun y=>((y.1.1.length:Int)≤1+x∧∀ e∈y.1.1,ItR w e)∧0≤y.2.1) (([],0,0),i,h) ⟨⟨by simp;omega,by simp⟩,hi⟩ ⟨rfl,rfl,rfl,rfl,rfl,rfl,trivial⟩ hh ?_ (fun y s hI hh=>?_)
 · dsimp only
   (repeat' first |(exact Sel.nil) |(exact Sel.refl _) |(refine' Sel.p ?_ ?_;rotate_left 1;(focus (((repeat' first |(exact Pick.here) |(refine' Pick.there ?_));done)))))
 obtain ⟨⟨is,c0,l0⟩,i,h⟩:=y
 obtain ⟨⟨hI,hwI⟩,hi⟩:=hI
 dsimp only at hI hwI hi hh ⊢
 by_cases hlt:(is.length:Int)<1+x
 · skip
   repeat' first |(refine kAlloc ?_ ;refine LOps.allocH tT_ok hh rfl rfl ?_ ;intro s n hh) |(refine kStore ?_ ;first |(refine LOps.storeH tT_ok 0 hh rfl rfl rfl rfl rfl rfl rfl rfl rfl ?_ ;intro s hh) |(refine LOps.storeH tT_ok 1 hh rfl rfl rfl rfl rfl rfl rfl rfl rfl ?_ ;intro s hh) |(refine LOps.storeH tT_ok 2 hh rfl rfl rfl rfl rfl rfl rfl rfl rfl ?_ ;intro s hh) |(refine LOps.storeH tT_ok 3 hh rfl rfl rfl rfl rfl rfl rfl rfl rfl ?_ ;intro s hh)) |(refine kBsl ?_ ;first |(refine LOps.ans (AnsL.bslE tT_ok rfl rfl rfl rfl rfl rfl rfl rfl ?_) ?_ ;(focus ((repeat' first |(exact ElsH.of rfl));done)))) |(refine kApp ?_ ;first |(refine' LOps.appW tT_ok 1 rfl rfl rfl rfl rfl rfl rfl rfl rfl rfl hh ?_ ?_ ?_ (AppB.ofW ?_ rfl) ?_ ;rotate_left 2 ;(focus (first |(intro x hx;obtain ⟨y,_,rfl⟩:=List.mem_map.1 hx;first | rfl | exact PE.cells_len _ | exact PE.planV_len _ | exact EE.cells_len _ | exact EE.queryV_len _))) ;(focus ((repeat' first |(exact ConsOL.nil) |(exact ConsO.scal rfl) |(exact ConsO.slm0) |(refine' ConsOL.cons ?_ ?_) |(refine' ConsO.agg ?_));done)) ;(focus ((repeat' first |(exact Elems.of rfl));done)) ;(focus (first | omega |(simp ;omega))) ;intro s c n hh) |(refine' LOps.appW tT_ok 4 rfl rfl rfl rfl rfl rfl rfl rfl rfl rfl hh ?_ ?_ ?_ (AppB.ofW ?_ rfl) ?_ ;rotate_left 2 ;(focus (first |(intro x hx;obtain ⟨y,_,rfl⟩:=List.mem_map.1 hx;first | rfl | exact PE.cells_len _ | exact PE.planV_len _ | exact EE.cells_len _ | exact EE.queryV_len _))) ;(focus ((repeat' first |(exact ConsOL.nil) |(exact ConsO.scal rfl) |(refine' ConsO.op ?_;((repeat' first |(exact Pick.here) |(refine' Pick.there ?_));done)) |(refine' ConsOL.cons ?_ ?_) |(refine' ConsO.agg ?_));done)) ;(focus ((repeat' first |(exact Elems.of rfl));done)) ;(focus (first | omega |(simp ;omega))) ;intro s c n hh)) |(refine kCallN 26 ?_ ;first |(refine LOps.drawH 1 rfl rfl ok26 hh rfl rfl ?_ (specl1Below_d hb (by omega)) ?_ ;(focus (first | assumption | omega)) ;intro s x i h hq hi hh ;try dsimp only)) |(refine kCallN 39 ?_ ;first |(refine LOps.drawH 3 rfl rfl ok39 hh rfl rfl ?_ (specl1Once_d hb (by omega)) ?_ ;(focus (first | assumption | omega)) ;intro s x i h hq hi hh ;try dsimp only)) |(refine kCallN 87 ?_ ;first |(refine LOps.drawH 0 rfl rfl ok87 hh rfl rfl ?_ (specl2Name_d hb) ?_ ;(focus (first | assumption | omega)) ;intro s x i h hq hi hh ;try dsimp only)) |(refine kCallN 86 ?_ ;first |(refine LOps.drawH 0 rfl rfl ok86 hh rfl rfl ?_ (specl1Pick_d hb rfl (by simp)) ?_ ;(focus (first | assumption | omega)) ;intro s x i h hq hi hh ;try dsimp only)) |(refine kCallN 25 ?_ ;first |(refine LOps.drawB 0 rfl rfl ok25 hh (he) .nil rfl rfl ?_ ?_ ;(focus (first | assumption | omega)) ;intro s y i h hq hi hh ;try dsimp only [List.cons_append,List.nil_append] at hh)) |(refine kOps ?_;first |(refine LOps.nil ?_) |(refine' LOps.ans (v := .agg _) (AnsL.buildZ tT_ok rfl rfl rfl rfl ?_) ?_;rotate_left 1;(focus ((repeat' first |(exact Fills.nil) |(refine' Fills.cons rfl rfl rfl rfl ?_));done))) |(refine LOps.ev tT_ok rfl ?_) |(refine kLoad ?_;first |(refine LOps.ans (AnsL.loadH tT_ok 1 hh rfl rfl rfl rfl) ?_) |(refine LOps.ans (AnsL.loadH tT_ok 2 hh rfl rfl rfl rfl) ?_) |(refine LOps.ans (AnsL.loadH tT_ok 5 hh rfl rfl rfl rfl) ?_)) |(refine kBin ?_;first |(refine LOps.ans (AnsL.add rfl rfl ?_) ?_;(focus (constructor <;> omega))))) |(refine kWL ?_;first |(refine WL.seq ?_) |(refine WL.region (by kernel_rfl) ?_) |(refine WL.drawn (id:=14) [0,1,2,3,4,5,6,7,8,9] [4,7,9] [[],[0],[],[],[2,3],[2,3,4],[2,3,4,5],[0,1,2,3,4,5,6],[0,1,2,3,4,5,6,7],[0,1,2,3,4,5,6,7,8]] (by kernel_rfl) (by kernel_rfl) ?_) |(refine WL.block ?_) |(refine WL.skip ?_) |(refine kCond ?_;first |(refine WL.condT' rfl ?_ ?_;(focus (first |(exact decide_eq_true (by assumption))))) |(refine WL.cond rfl (fun h=>?_) (fun h=>?_)))) |(refine kDr ?_;first |(refine LDr.nil ?_) |(refine' LDr.fl (v := .agg _) rfl rfl (AnsL.buildZ tT_ok rfl rfl rfl rfl ?_) ?_;rotate_left 1;(focus ((repeat' first |(exact Fills.nil) |(refine' Fills.cons rfl rfl rfl rfl ?_));done))) |(refine LDr.fl rfl rfl (.ev tT_ok rfl) ?_) |(refine LDr.fl rfl rfl (AnsL.bslF tT_ok rfl rfl rfl rfl rfl rfl rfl rfl rfl) ?_) |(refine kDLoad rfl ?_;first |(refine LDr.fl rfl rfl (AnsL.loadH tT_ok 2 hh rfl rfl rfl rfl) ?_)) |(refine LDr.eff rfl rfl rfl ?_)) |(refine lthen_n ?_) |(refine lblock_n ?_) |(refine And.intro ?_ ?_) |(exact StsL.nil) |(refine StsL.cons ?_ ?_) |(refine StL.fl rfl rfl (.ev tT_ok rfl)) |(refine StL.fl rfl rfl (AnsL.loadH tT_ok 2 hh rfl rfl rfl rfl))
   · skip
     all_goals
       try simp only [PE.q_eq,List.length_append,List.length_map,List.length_cons,List.length_nil,Nat.zero_add,EItem.snoc0] at hh
       refine' lbackH.of (((is++[ItemOf.mk true [] EE.zero []],_,_),_,_)) ?_ hh ?_ ?_ ?_
       rotate_left 5
       · dsimp only;(try simp only [List.map_append,List.map_cons,List.map_nil,PE.vS,List.length_append,List.length_map,List.length_cons,List.length_nil,Nat.zero_add]);(repeat' first |(exact Sel.nil) |(exact Sel.refl _) |(refine' Sel.p ?_ ?_;rotate_left 1;(focus (((repeat' first |(exact Pick.here) |(refine' Pick.there ?_));done)))));(all_goals (repeat' first |(exact Sel.refl _) |(refine Sel.drop ?_)));done
       · dsimp only;refine ⟨⟨by simp;omega,all_snoc hwI ⟨by simp,by simp,by rw [wgt_zero];omega,fun h=>by cases h⟩⟩,by assumption⟩
       · dsimp only;first | omega |(simp;omega) |(simp_all;omega)
       · repeat' first | exact SubL.nil |(refine SubL.mk rfl ?_ ?_) | rfl |(simp;done) |(simp;omega)
   · skip
     all_goals
       try simp only [PE.q_eq,List.length_append,List.length_map,List.length_cons,List.length_nil,Nat.zero_add,EItem.snoc0] at hh
       refine' lbackH.of (((is++[ItemOf.mk true _ EE.zero []],_,_),_,_)) ?_ hh ?_ ?_ ?_
       rotate_left 6
       · dsimp only;(try simp only [List.map_append,List.map_cons,List.map_nil,PE.vS,List.length_append,List.length_map,List.length_cons,List.length_nil,Nat.zero_add]);(repeat' first |(exact Sel.nil) |(exact Sel.refl _) |(refine' Sel.p ?_ ?_;rotate_left 1;(focus (((repeat' first |(exact Pick.here) |(refine' Pick.there ?_));done)))));(all_goals (repeat' first |(exact Sel.refl _) |(refine Sel.drop ?_)));done
       · dsimp only;refine ⟨⟨by simp;omega,all_snoc hwI ⟨p1 _ (by assumption),by simp,by rw [wgt_zero];omega,fun h=>by cases h⟩⟩,by assumption⟩
       · dsimp only;first | omega |(simp;omega) |(simp_all;omega)
       · repeat' first | exact SubL.nil |(refine SubL.mk rfl ?_ ?_) | rfl |(simp;done) |(simp;omega)
   · skip
     all_goals
       try simp only [PE.q_eq,List.length_append,List.length_map,List.length_cons,List.length_nil,Nat.zero_add,EItem.snoc] at hh
       refine' lbackH.of (((is++[ItemOf.mk false [] y.1 _],_,_),_,_)) ?_ hh ?_ ?_ ?_
       rotate_left 6
       · dsimp only;(try simp only [List.map_append,List.map_cons,List.map_nil,PE.vS,List.length_append,List.length_map,List.length_cons,List.length_nil,Nat.zero_add]);(repeat' first |(exact Sel.nil) |(exact Sel.refl _) |(refine' Sel.p ?_ ?_;rotate_left 1;(focus (((repeat' first |(exact Pick.here) |(refine' Pick.there ?_));done)))));(all_goals (repeat' first |(exact Sel.refl _) |(refine Sel.drop ?_)));done
       · dsimp only;refine ⟨⟨by simp;omega,all_snoc hwI ⟨by simp,by assumption,(by assumption:Rt w y.1).1,fun _=>(by assumption:Rt w y.1).2⟩⟩,by assumption⟩
       · dsimp only;first | omega |(simp;omega) |(simp_all;omega)
       · repeat' first | exact SubL.nil |(refine SubL.mk rfl ?_ ?_) | rfl |(simp;done) |(simp;omega)
   · skip
     all_goals
       try simp only [PE.q_eq,List.length_append,List.length_map,List.length_cons,List.length_nil,Nat.zero_add,EItem.snoc] at hh
       refine' lbackH.of (((is++[ItemOf.mk false [] y.1 []],_,_),_,_)) ?_ hh ?_ ?_ ?_
       rotate_left 5
       · dsimp only;(try simp only [List.map_append,List.map_cons,List.map_nil,PE.vS,List.length_append,List.length_map,List.length_cons,List.length_nil,Nat.zero_add]);(repeat' first |(exact Sel.nil) |(exact Sel.refl _) |(refine' Sel.p ?_ ?_;rotate_left 1;(focus (((repeat' first |(exact Pick.here) |(refine' Pick.there ?_));done)))));(all_goals (repeat' first |(exact Sel.refl _) |(refine Sel.drop ?_)));done
       · dsimp only;refine ⟨⟨by simp;omega,all_snoc hwI ⟨by simp,by simp,(by assumption:Rt w y.1).1,fun _=>(by assumption:Rt w y.1).2⟩⟩,by assumption⟩
       · dsimp only;first | omega |(simp;omega) |(simp_all;omega)
       · repeat' first | exact SubL.nil |(refine SubL.mk rfl ?_ ?_) | rfl |(simp;done) |(simp;omega)
 have hil:(is.length:Int)≤2:=by omega
 repeat' first |(refine kCallN 26 ?_ ;first |(refine LOps.drawH 1 rfl rfl ok26 hh rfl rfl ?_ (specl1Below_d hb (by omega)) ?_ ;(focus (first | assumption | omega)) ;intro s x i h hq hi hh ;try dsimp only)) |(refine kOps ?_;first |(refine LOps.nil ?_) |(refine LOps.ev tT_ok rfl ?_) |(refine kBin ?_;first |(refine LOps.ans (AnsL.add rfl rfl ?_) ?_;(focus (constructor <;> omega))))) |(refine kWL ?_;first |(refine WL.seq ?_) |(refine WL.region (by kernel_rfl) ?_) |(refine WL.block ?_) |(refine WL.exit ?_) |(refine kCond ?_;first |(refine WL.condF' rfl ?_ ?_;(focus (first |(exact decide_eq_false (by assumption))))))) |(refine lthen_n ?_) |(refine lthen_e ?_) |(refine lblock_e ?_) |(refine lbackH_e ?_)
 replace hh:=hh.nil0
 refine WL.loopH (fun y:(List ESrc × Nat × Nat) × Int × Int=>(1+x - y.1.1.length).toNat)
   (fun y=>[(0,.ptr l 0),(1,.int .i64 deep),(4,.ptr nr 0),(5,.ptr n 0),(6,.int .i64 (1+x)),(9,.int .i64 (y.1.1.length:Int))])
   (fun y => .own (.slm (.is y.1.2.1) y.1.2.2 0 y.1.1.length) (.sl 0 (y.1.1.map ESrc.v)) :: .cell l (curC b y.2.1 y.2.2) :: .cell n [.bool ds,.slm (.is c0) l0 0 is.length,.slm (.is y.1.2.1) y.1.2.2 0 y.1.1.length,.slm (.is 0) 0 0 0,.slm (.is 0) 0 0 0,.int .i64 (-1)] :: .cell nr [.bool false,.nilsl,.nilsl,.nilsl,.nilsl,.int .i64 0] :: .own (.slm (.is c0) l0 0 is.length) (.sl 0 (is.map EItem.v))::H)
   (fun y=>((y.1.1.length:Int)≤1+x∧∀ e∈y.1.1,SrR w e)∧0≤y.2.1) (([],0,0),i,h) ⟨⟨by simp;omega,by simp⟩,hi⟩ ⟨rfl,rfl,rfl,rfl,rfl,rfl,trivial⟩ hh ?_ (fun y s hI hh=>?_)
 · dsimp only
   (repeat' first |(exact Sel.nil) |(exact Sel.refl _) |(refine' Sel.p ?_ ?_;rotate_left 1;(focus (((repeat' first |(exact Pick.here) |(refine' Pick.there ?_));done)))))
 obtain ⟨⟨ss,c1,l1⟩,i,h⟩:=y
 obtain ⟨⟨hI,hsI⟩,hi⟩:=hI
 dsimp only at hI hsI hi hh ⊢
 by_cases hlt:(ss.length:Int)<1+x
 · skip
   repeat' first |(refine kAlloc ?_ ;refine LOps.allocH tT_ok hh rfl rfl ?_ ;intro s n hh) |(refine kStore ?_ ;first |(refine LOps.storeH tT_ok 0 hh rfl rfl rfl rfl rfl rfl rfl rfl rfl ?_ ;intro s hh) |(refine LOps.storeH tT_ok 1 hh rfl rfl rfl rfl rfl rfl rfl rfl rfl ?_ ;intro s hh) |(refine LOps.storeH tT_ok 2 hh rfl rfl rfl rfl rfl rfl rfl rfl rfl ?_ ;intro s hh) |(refine LOps.storeH tT_ok 3 hh rfl rfl rfl rfl rfl rfl rfl rfl rfl ?_ ;intro s hh)) |(refine kBsl ?_ ;first |(refine LOps.ans (d:=67) (AnsL.bslF tT_ok rfl rfl rfl rfl rfl rfl rfl rfl rfl) ?_) |(refine' LOps.bslO (d:=84) tT_ok rfl rfl rfl rfl rfl rfl rfl rfl hh ?_ ?_ ?_ ;rotate_left 2 ;(focus ((repeat' first |(exact ConsOL.nil) |(exact ConsO.scal rfl) |(refine' ConsO.op ?_;((repeat' first |(exact Pick.here) |(refine' Pick.there ?_));done)) |(refine' ConsOL.cons ?_ ?_) |(refine' ConsO.agg ?_));done)) ;(focus ((repeat' first |(exact ElsH.of rfl));done)) ;intro s n hh) |(refine LOps.ans (AnsL.bslE tT_ok rfl rfl rfl rfl rfl rfl rfl rfl ?_) ?_ ;(focus ((repeat' first |(exact ElsH.of rfl));done)))) |(refine kApp ?_ ;first |(refine' LOps.appW tT_ok 2 rfl rfl rfl rfl rfl rfl rfl rfl rfl rfl hh ?_ ?_ ?_ (AppB.of ?_ rfl) ?_ ;rotate_left 2 ;(focus (first |(intro x hx;obtain ⟨y,_,rfl⟩:=List.mem_map.1 hx;first | rfl | exact PE.cells_len _ | exact PE.planV_len _ | exact EE.cells_len _ | exact EE.queryV_len _))) ;(focus ((repeat' first |(exact ConsOL.nil) |(exact ConsO.scal rfl) |(exact ConsO.slm0) |(refine' ConsOL.cons ?_ ?_) |(refine' ConsO.agg ?_));done)) ;(focus ((repeat' first |(exact Elems.of rfl));done)) ;(focus (first | omega |(simp ;omega))) ;intro s c n hh) |(refine' LOps.appW tT_ok 3 rfl rfl rfl rfl rfl rfl rfl rfl rfl rfl hh ?_ ?_ ?_ (AppB.of ?_ rfl) ?_ ;rotate_left 2 ;(focus (first |(intro x hx;obtain ⟨y,_,rfl⟩:=List.mem_map.1 hx;first | rfl | exact PE.cells_len _ | exact PE.planV_len _ | exact EE.cells_len _ | exact EE.queryV_len _))) ;(focus ((repeat' first |(exact ConsOL.nil) |(exact ConsO.scal rfl) |(refine' ConsO.op ?_;((repeat' first |(exact Pick.here) |(refine' Pick.there ?_));done)) |(refine' ConsOL.cons ?_ ?_) |(refine' ConsO.agg ?_));done)) ;(focus ((repeat' first |(exact Elems.of rfl));done)) ;(focus (first | omega |(simp ;omega))) ;intro s c n hh)) |(refine kCallN 39 ?_ ;first |(refine LOps.drawH 0 rfl rfl ok39 hh rfl rfl ?_ (specl1Once_d hb (by omega)) ?_ ;(focus (first | assumption | omega)) ;intro s x i h hq hi hh ;try dsimp only) |(refine LOps.drawH 1 rfl rfl ok39 hh rfl rfl ?_ (specl1Once_d hb (by omega)) ?_ ;(focus (first | assumption | omega)) ;intro s x i h hq hi hh ;try dsimp only)) |(refine kCallN 87 ?_ ;first |(refine LOps.drawH 0 rfl rfl ok87 hh rfl rfl ?_ (specl2Name_d hb) ?_ ;(focus (first | assumption | omega)) ;intro s x i h hq hi hh ;try dsimp only)) |(refine kCallN 86 ?_ ;first |(refine LOps.drawH 1 rfl rfl ok86 hh rfl rfl ?_ (specl1Pick_d hb rfl (by simp)) ?_ ;(focus (first | assumption | omega)) ;intro s x i h hq hi hh ;try dsimp only)) |(refine kCallN 25 ?_ ;first |(refine LOps.drawB 0 rfl rfl ok25 hh (he) .nil rfl rfl ?_ ?_ ;(focus (first | assumption | omega)) ;intro s y i h hq hi hh ;try dsimp only [List.cons_append,List.nil_append] at hh)) |(refine kOps ?_;first |(refine LOps.nil ?_) |(refine kG ?_;first |(refine LOps.gT rfl rfl rfl ?_) |(refine LOps.gF rfl rfl rfl ?_) |(refine LOps.gC rfl rfl rfl (fun h=>?_) (fun h=>?_))) |(refine' LOps.ans (v := .agg _) (AnsL.buildZ tT_ok rfl rfl rfl rfl ?_) ?_;rotate_left 1;(focus ((repeat' first |(exact Fills.nil) |(refine' Fills.cons rfl rfl rfl rfl ?_));done))) |(refine LOps.ev tT_ok rfl ?_) |(refine kLoad ?_;first |(refine LOps.ans (AnsL.loadH tT_ok 1 hh rfl rfl rfl rfl) ?_) |(refine LOps.ans (AnsL.loadH tT_ok 2 hh rfl rfl rfl rfl) ?_) |(refine LOps.ans (AnsL.loadH tT_ok 3 hh rfl rfl rfl rfl) ?_) |(refine LOps.ans (AnsL.loadH tT_ok 4 hh rfl rfl rfl rfl) ?_)) |(refine kBin ?_;first |(refine LOps.ans (AnsL.add rfl rfl ?_) ?_;(focus (constructor <;> omega))))) |(refine kWL ?_;first |(refine WL.seq ?_) |(refine WL.region (by kernel_rfl) ?_) |(refine WL.block ?_) |(refine WL.skip ?_) |(refine kCond ?_;first |(refine WL.condF rfl ?_) |(refine WL.condT' rfl ?_ ?_;(focus (first |(exact decide_eq_true (by assumption))))) |(refine WL.cond rfl (fun h=>?_) (fun h=>?_)))) |(refine lthen_n ?_) |(refine lblock_n ?_)
   all_goals first
     | skip
       all_goals
         try simp only [PE.q_eq,List.length_append,List.length_map,List.length_cons,List.length_nil,Nat.zero_add,ESrc.snoc1] at hh
         refine' lbackH.of (((ss++[SrcOf.mk _ _ [y.1]],_,_),_,_)) ?_ hh ?_ ?_ ?_
         rotate_left 7
         · dsimp only;(try simp only [List.map_append,List.map_cons,List.map_nil,PE.vS,List.length_append,List.length_map,List.length_cons,List.length_nil,Nat.zero_add]);(repeat' first |(exact Sel.nil) |(exact Sel.refl _) |(refine' Sel.p ?_ ?_;rotate_left 1;(focus (((repeat' first |(exact Pick.here) |(refine' Pick.there ?_));done)))));(all_goals (repeat' first |(exact Sel.refl _) |(refine Sel.drop ?_)));done
         · dsimp only;refine ⟨⟨by simp;omega,all_snoc hsI ⟨p2 _ (by assumption),by first | assumption | simp,by simp,fun e he=>by rw [List.mem_singleton] at he;subst he;assumption⟩⟩,by assumption⟩
         · dsimp only;first | omega |(simp;omega) |(simp_all;omega)
         · repeat' first | exact SubL.nil |(refine SubL.mk rfl ?_ ?_) | rfl |(simp;done) |(simp;omega)
     | skip
       all_goals
         try simp only [PE.q_eq,List.length_append,List.length_map,List.length_cons,List.length_nil,Nat.zero_add,ESrc.snoc0] at hh
         refine' lbackH.of (((ss++[SrcOf.mk _ _ []],_,_),_,_)) ?_ hh ?_ ?_ ?_
         rotate_left 7
         · dsimp only;(try simp only [List.map_append,List.map_cons,List.map_nil,PE.vS,List.length_append,List.length_map,List.length_cons,List.length_nil,Nat.zero_add]);(repeat' first |(exact Sel.nil) |(exact Sel.refl _) |(refine' Sel.p ?_ ?_;rotate_left 1;(focus (((repeat' first |(exact Pick.here) |(refine' Pick.there ?_));done)))));(all_goals (repeat' first |(exact Sel.refl _) |(refine Sel.drop ?_)));done
         · dsimp only;refine ⟨⟨by simp;omega,all_snoc hsI ⟨p2 _ (by assumption),by first | assumption | simp,by simp,fun e he=>by cases he⟩⟩,by assumption⟩
         · dsimp only;first | omega |(simp;omega) |(simp_all;omega)
         · repeat' first | exact SubL.nil |(refine SubL.mk rfl ?_ ?_) | rfl |(simp;done) |(simp;omega)
 have hsl:(ss.length:Int)≤2:=by omega
 repeat' first |(refine kCallN 39 ?_ ;first |(refine LOps.drawH 1 rfl rfl ok39 hh rfl rfl ?_ (specl1Once_d hb (by omega)) ?_ ;(focus (first | assumption | omega)) ;intro s x i h hq hi hh ;try dsimp only)) |(refine kOps ?_;first |(refine LOps.nil ?_) |(refine LOps.ev tT_ok rfl ?_)) |(refine kWL ?_;first |(refine WL.seq ?_) |(refine WL.region (by kernel_rfl) ?_) |(refine WL.exit ?_) |(refine kCond ?_;first |(refine WL.condF' rfl ?_ ?_;(focus (first |(exact decide_eq_false (by assumption))))))) |(refine lthen_n ?_) |(refine lthen_e ?_) |(refine lblock_e ?_) |(refine lbackH_e ?_)
 refine WL.cutH (fun _:(List EE × Nat × Nat) × Int × Int=>[(0,.ptr l 0),(1,.int .i64 deep),(4,.ptr nr 0),(5,.ptr n 0)]) (fun y => .own (.slm (.is y.1.2.1) y.1.2.2 0 y.1.1.length) (.sl 0 (y.1.1.map EE.toV)) :: .cell l (curC b y.2.1 y.2.2) :: .cell n [.bool ds,.slm (.is c0) l0 0 is.length,.slm (.is c1) l1 0 ss.length,.slm (.is y.1.2.1) y.1.2.2 0 y.1.1.length,.slm (.is 0) 0 0 0,.int .i64 (-1)] :: .cell nr [.bool false,.nilsl,.nilsl,.nilsl,.nilsl,.int .i64 0] :: .own (.slm (.is c0) l0 0 is.length) (.sl 0 (is.map EItem.v)) :: .own (.slm (.is c1) l1 0 ss.length) (.sl 0 (ss.map ESrc.v))::H)
   (fun y=>(y.1.1.length≤1∧∀ e∈y.1.1,Rt w e)∧0≤y.2.1) ?_ (fun y s hI hh=>?_)
 · skip
   repeat' first |(refine kStore ?_ ;first |(refine LOps.storeH tT_ok 3 hh rfl rfl rfl rfl rfl rfl rfl rfl rfl ?_ ;intro s hh)) |(refine kBsl ?_ ;first |(refine' LOps.bslO (d:=97) tT_ok rfl rfl rfl rfl rfl rfl rfl rfl hh ?_ ?_ ?_ ;rotate_left 2 ;(focus ((repeat' first |(exact ConsOL.nil) |(exact ConsO.scal rfl) |(refine' ConsO.op ?_;((repeat' first |(exact Pick.here) |(refine' Pick.there ?_));done)) |(refine' ConsOL.cons ?_ ?_) |(refine' ConsO.agg ?_));done)) ;(focus ((repeat' first |(exact ElsH.of rfl));done)) ;intro s n hh)) |(refine kCallN 25 ?_ ;first |(refine LOps.drawB 0 rfl rfl ok25 hh (he) .nil rfl rfl ?_ ?_ ;(focus (first | assumption | omega)) ;intro s y i h hq hi hh ;try dsimp only [List.cons_append,List.nil_append] at hh)) |(refine kOps ?_;first |(refine LOps.nil ?_) |(refine LOps.ev tT_ok rfl ?_)) |(refine kWL ?_;first |(refine WL.region (by kernel_rfl) ?_) |(refine WL.skip ?_) |(refine kCond ?_;first |(refine WL.cond rfl (fun h=>?_) (fun h=>?_))))
   · skip
     all_goals
       try simp only [PE.q_eq,List.length_append,List.length_map,List.length_cons,List.length_nil,Nat.zero_add,EE.q_eq] at hh
       refine' CutH.of ((([y.1],1,_),_,_)) ?_ hh ?_ ?_
       rotate_left 4
       · try dsimp only
         (try simp only [List.map_append,List.map_cons,List.map_nil,PE.vS,List.length_append,List.length_map,List.length_cons,List.length_nil,Nat.zero_add]);(repeat' first |(exact Sel.nil) |(exact Sel.refl _) |(refine' Sel.p ?_ ?_;rotate_left 1;(focus (((repeat' first |(exact Pick.here) |(refine' Pick.there ?_));done)))));(all_goals (repeat' first |(exact Sel.refl _) |(refine Sel.drop ?_)));done
       · try dsimp only
         exact ⟨⟨by simp,fun e he'=>by rw [List.mem_singleton] at he';subst he';assumption⟩,by assumption⟩
       · repeat' first | exact SubL.nil |(refine SubL.mk rfl ?_ ?_) | rfl |(simp;done) |(simp;omega)
   replace hh:=hh.nil0
   all_goals
     try simp only [PE.q_eq,List.length_append,List.length_map,List.length_cons,List.length_nil,Nat.zero_add] at hh
     refine' CutH.of ((([],0,0),_,_)) ?_ hh ?_ ?_
     rotate_left 3
     · try dsimp only
       (try simp only [List.map_append,List.map_cons,List.map_nil,PE.vS,List.length_append,List.length_map,List.length_cons,List.length_nil,Nat.zero_add]);(repeat' first |(exact Sel.nil) |(exact Sel.refl _) |(refine' Sel.p ?_ ?_;rotate_left 1;(focus (((repeat' first |(exact Pick.here) |(refine' Pick.there ?_));done)))));(all_goals (repeat' first |(exact Sel.refl _) |(refine Sel.drop ?_)));done
     · try dsimp only
       exact ⟨⟨by simp,by simp⟩,by assumption⟩
     · repeat' first | exact SubL.nil |(refine SubL.mk rfl ?_ ?_) | rfl |(simp;done) |(simp;omega)
 obtain ⟨⟨ws,c2,l2⟩,i,h⟩:=y
 obtain ⟨⟨hw1,hw2⟩,hi⟩:=hI
 dsimp only at hw1 hw2 hi hh ⊢
 repeat' first |(refine kCallN 39 ?_ ;first |(refine LOps.drawH 1 rfl rfl ok39 hh rfl rfl ?_ (specl1Once_d hb (by omega)) ?_ ;(focus (first | assumption | omega)) ;intro s x i h hq hi hh ;try dsimp only)) |(refine kOps ?_;first |(refine LOps.nil ?_) |(refine LOps.ev tT_ok rfl ?_)) |(refine kWL ?_;first |(refine WL.seq ?_) |(refine WL.region (by kernel_rfl) ?_)) |(refine lthen_n ?_)
 refine WL.cutH (fun _:(List (EE × Bool) × Nat × Nat) × Int × Int=>[(0,.ptr l 0),(1,.int .i64 deep),(4,.ptr nr 0),(5,.ptr n 0)]) (fun y => .own (.slm (.is y.1.2.1) y.1.2.2 0 y.1.1.length) (.sl 0 (y.1.1.map EE.sv)) :: .cell l (curC b y.2.1 y.2.2) :: .cell n [.bool ds,.slm (.is c0) l0 0 is.length,.slm (.is c1) l1 0 ss.length,.slm (.is c2) l2 0 ws.length,.slm (.is y.1.2.1) y.1.2.2 0 y.1.1.length,.int .i64 (-1)] :: .cell nr [.bool false,.nilsl,.nilsl,.nilsl,.nilsl,.int .i64 0] :: .own (.slm (.is c0) l0 0 is.length) (.sl 0 (is.map EItem.v)) :: .own (.slm (.is c1) l1 0 ss.length) (.sl 0 (ss.map ESrc.v)) :: .own (.slm (.is c2) l2 0 ws.length) (.sl 0 (ws.map EE.toV))::H)
   (fun y=>(y.1.1.length≤1∧∀ e∈y.1.1,Rt w e.1)∧0≤y.2.1) ?_ (fun y s hI hh=>?_)
 · skip
   repeat' first |(refine kStore ?_ ;first |(refine LOps.storeH tT_ok 3 hh rfl rfl rfl rfl rfl rfl rfl rfl rfl ?_ ;intro s hh)) |(refine kApp ?_ ;first |(refine' LOps.appS tT_ok rfl rfl rfl rfl rfl rfl rfl rfl hh ?_ ?_ (AppB.ofW ?_ rfl) ?_ ;rotate_left 2 ;(focus ((repeat' first |(exact ConsOL.nil) |(exact ConsO.scal rfl) |(refine' ConsO.op ?_;((repeat' first |(exact Pick.here) |(refine' Pick.there ?_));done)) |(refine' ConsOL.cons ?_ ?_) |(refine' ConsO.agg ?_));done)) ;(focus ((repeat' first |(exact Elems.of rfl));done)) ;(focus (first | omega |(simp <;> fail))) ;intro s c n hh)) |(refine kCallN 39 ?_ ;first |(refine LOps.drawH 2 rfl rfl ok39 hh rfl rfl ?_ (specl1Once_d hb (by omega)) ?_ ;(focus (first | assumption | omega)) ;intro s x i h hq hi hh ;try dsimp only)) |(refine kCallN 25 ?_ ;first |(refine LOps.drawB 0 rfl rfl ok25 hh (he) .nil rfl rfl ?_ ?_ ;(focus (first | assumption | omega)) ;intro s y i h hq hi hh ;try dsimp only [List.cons_append,List.nil_append] at hh)) |(refine kOps ?_;first |(refine LOps.nil ?_)) |(refine kWL ?_;first |(refine WL.drawn (id:=28) [0,1,2,3,5,4,6,7,8,9,10,11] [4,6,9,11] [[],[0],[],[],[2,3],[],[2,3,4,5],[2,3,4,5,6],[2,3,4,5,6,7],[0,1,2,3,4,5,6,7,8],[0,1,2,3,4,5,6,7,8,9],[0,1,2,3,4,5,6,7,8,9,10]] (by kernel_rfl) (by kernel_rfl) ?_) |(refine WL.skip ?_) |(refine kCond ?_;first |(refine WL.cond rfl (fun h=>?_) (fun h=>?_)))) |(refine kDr ?_;first |(refine LDr.nil ?_) |(refine' LDr.fl (v := .agg _) rfl rfl (AnsL.buildZ tT_ok rfl rfl rfl rfl ?_) ?_;rotate_left 1;(focus ((repeat' first |(exact Fills.nil) |(refine' Fills.cons rfl rfl rfl rfl ?_));done))) |(refine LDr.fl rfl rfl (.ev tT_ok rfl) ?_) |(refine LDr.fl rfl rfl (AnsL.bslF tT_ok rfl rfl rfl rfl rfl rfl rfl rfl rfl) ?_) |(refine kDLoad rfl ?_;first |(refine LDr.fl rfl rfl (AnsL.loadH tT_ok 2 hh rfl rfl rfl rfl) ?_)) |(refine LDr.eff rfl rfl rfl ?_)) |(refine And.intro ?_ ?_) |(exact StsL.nil) |(refine StsL.cons ?_ ?_) |(refine StL.fl rfl rfl (.ev tT_ok rfl)) |(refine StL.fl rfl rfl (AnsL.loadH tT_ok 4 hh rfl rfl rfl rfl))
   · skip
     all_goals
       try simp only [PE.q_eq,List.length_append,List.length_map,List.length_cons,List.length_nil,Nat.zero_add] at hh
       refine' CutH.of ((([(y.1,_)],_,_),_,_)) ?_ hh ?_ ?_
       rotate_left 6
       · try dsimp only
         (try simp only [List.map_append,List.map_cons,List.map_nil,PE.vS,List.length_append,List.length_map,List.length_cons,List.length_nil,Nat.zero_add]);(repeat' first |(exact Sel.nil) |(exact Sel.refl _) |(refine' Sel.p ?_ ?_;rotate_left 1;(focus (((repeat' first |(exact Pick.here) |(refine' Pick.there ?_));done)))));(all_goals (repeat' first |(exact Sel.refl _) |(refine Sel.drop ?_)));done
       · try dsimp only
         exact ⟨⟨by simp,fun e he'=>by rw [List.mem_singleton] at he';subst he';assumption⟩,by assumption⟩
       · repeat' first | exact SubL.nil |(refine SubL.mk rfl ?_ ?_) | rfl |(simp;done) |(simp;omega)
   replace hh:=hh.nil0
   all_goals
     try simp only [PE.q_eq,List.length_append,List.length_map,List.length_cons,List.length_nil,Nat.zero_add] at hh
     refine' CutH.of ((([],0,0),_,_)) ?_ hh ?_ ?_
     rotate_left 3
     · try dsimp only
       (try simp only [List.map_append,List.map_cons,List.map_nil,PE.vS,List.length_append,List.length_map,List.length_cons,List.length_nil,Nat.zero_add]);(repeat' first |(exact Sel.nil) |(exact Sel.refl _) |(refine' Sel.p ?_ ?_;rotate_left 1;(focus (((repeat' first |(exact Pick.here) |(refine' Pick.there ?_));done)))));(all_goals (repeat' first |(exact Sel.refl _) |(refine Sel.drop ?_)));done
     · try dsimp only
       exact ⟨⟨by simp,by simp⟩,by assumption⟩
     · repeat' first | exact SubL.nil |(refine SubL.mk rfl ?_ ?_) | rfl |(simp;done) |(simp;omega)
 obtain ⟨⟨rs,c3,l3⟩,i,h⟩:=y
 obtain ⟨⟨ho1,ho2⟩,hi⟩:=hI
 dsimp only at ho1 ho2 hi hh ⊢
 repeat' first |(refine kStore ?_ ;first |(refine LOps.storeH tT_ok 2 hh rfl rfl rfl rfl rfl rfl rfl rfl rfl ?_ ;intro s hh) |(refine LOps.storeH tT_ok 3 hh rfl rfl rfl rfl rfl rfl rfl rfl rfl ?_ ;intro s hh)) |(refine kBsl ?_ ;first |(refine LOps.ans (d:=115) (AnsL.bslF tT_ok rfl rfl rfl rfl rfl rfl rfl rfl rfl) ?_)) |(refine kCallN 39 ?_ ;first |(refine LOps.drawH 1 rfl rfl ok39 hh rfl rfl ?_ (specl1Once_d hb (by omega)) ?_ ;(focus (first | assumption | omega)) ;intro s x i h hq hi hh ;try dsimp only)) |(refine kCallN 52 ?_ ;first |(refine LOps.drawH 0 rfl rfl ok52 hh rfl rfl ?_ (specl1PickInt_d hb rfl (by simp)) ?_ ;(focus (first | assumption | omega)) ;intro s x i h hq hi hh ;try dsimp only)) |(refine kOps ?_;first |(refine LOps.nil ?_) |(refine LOps.ev tT_ok rfl ?_) |(refine kLoad ?_;first |(refine LOps.ans (AnsL.loadH tT_ok 2 hh rfl rfl rfl rfl) ?_))) |(refine kWL ?_;first |(refine WL.seq ?_) |(refine WL.region (by kernel_rfl) ?_) |(refine WL.skip ?_) |(refine WL.ret ?_) |(refine kCond ?_;first |(refine WL.cond rfl (fun h=>?_) (fun h=>?_)))) |(refine lthen_n ?_) |(refine' LPost.r1 (r := .cell 4 63) (.inl rfl) ?_ ?_;rotate_left 1;(focus (first |(exact Res1.cellH 3 tT_ok hh rfl rfl rfl rfl))))
 all_goals
   apply DrwB.fin (y:=(⟨ds,is,ss,ws,rs,_⟩,fun k=>match k with | 0=>(c0,l0) | 1=>(c1,l1) | 2=>(c2,l2) | _=>(c3,l3))) (hh:=hh)
   case hv=>rfl
   case hi=>assumption
   case hs =>
     dsimp only [EQ.ob,List.cons_append,List.nil_append]
     (repeat' first |(exact Sel.nil) |(exact Sel.refl _) |(refine' Sel.p ?_ ?_;rotate_left 1;(focus (((repeat' first |(exact Pick.here) |(refine' Pick.there ?_));done)))))
     (repeat' first |(exact Sel.refl _) |(refine Sel.drop ?_))
   case hp =>
     dsimp only
     refine ⟨?_,query_sh hwI hsI (fun e he'=>(hw2 e he').2) (fun e he'=>(ho2 e he').2)⟩
     rw [EQ.wgt_eq]
     dsimp only
     have g1:=wgt_sl_le (f:=EItem.v) (c:=7+w) is (fun x hx=>by rw [EItem.wgt_eq];have:=hwI x hx;unfold ItR at this;omega)
     have g2:=wgt_sl_le (f:=ESrc.v) (c:=8+w) ss (fun x hx=>by
       rw [ESrc.wgt_eq]
       have h1:=hsI x hx
       unfold SrR at h1
       have h2:=wgt_sl_le (f:=EE.toV) (c:=w) x.on (fun e he'=>by rw [EE.toV_eq];exact (h1.2.2.2 e he').1)
       have h3:x.on.length*(w+1)≤1*(w+1):=Nat.mul_le_mul_right _ h1.2.2.1
       omega)
     have g3:=wgt_sl_le (f:=EE.toV) (c:=w) ws (fun e he'=>by rw [EE.toV_eq];exact (hw2 e he').1)
     have g4:=wgt_sl_le (f:=EE.sv) (c:=w) rs (fun e he'=>by rw [EE.wgt_eqs];exact (ho2 e he').1)
     have m1:is.length*(7+w+1)≤2*(7+w+1):=Nat.mul_le_mul_right _ (by omega)
     have m2:ss.length*(8+w+1)≤2*(8+w+1):=Nat.mul_le_mul_right _ (by omega)
     have m3:ws.length*(w+1)≤1*(w+1):=Nat.mul_le_mul_right _ (by omega)
     have m4:rs.length*(w+1)≤1*(w+1):=Nat.mul_le_mul_right _ (by omega)
     omega
end Go.Proofs.Ytikghanejpigjaa
