/-
 l20Plan: a draft. Own work; no condition.
-/
import Derived.Test.YtolhegocbkckdaaMg43
namespace Go.Proofs.Ytolhegocbkckdaa
open Go
set_option linter.unusedSimpArgs false
set_option linter.unusedVariables false
set_option maxHeartbeats 4000000 in
theorem specl20Plan_r {b:V} (hb:Bytes b) {ts:List Tab} (h1:0<ts.length∧ts.length≤3) (hts:∀ t∈ts,t.small) {env:List (List Int)} {N:Nat} (hE:env.length≤N∧N+1≤1000∧∀ r∈env,r.length≤1000) {types:List Int} {deep:Int} {w:Nat} (hty:types.length≤2)
   (he:∀ (env':List (List Int)) (ty:Int),env'.length≤N+1→(∀ r∈env',r.length≤1000)→PE.D Try.prog 58 b [catV ts,envW env',.int .i64 ty,.int .i64 deep] (fun e=>wgt e.v≤w)) :
   PL.D Try.prog 127 b [catV ts,envW env,.sl 0 (types.map iV),.int .i64 deep] (fun p=>wgt p.v≤64+8*w):=by
 intro s H l i h hi hh
 replace hh:Hold s s.next (.cell l (curC b i h)::H):=hh
 have hcw:(⟨ts⟩:Cat).wt≤1048576:=Nat.le_trans (Cat.small_wt h1.2 hts) (by omega)
 refine LCalls.body0 Try.func127 rfl (by kernel_rfl) ?_
 repeat' first |(refine kBox ?_ ;first |(refine LOps.boxH hh rfl rfl ?_ ;intro s n hh)) |(refine kAlloc ?_ ;refine LOps.allocH tT_ok hh rfl rfl ?_ ;intro s n hh) |(refine kStore ?_ ;first |(refine LOps.storeH tT_ok 0 hh rfl rfl rfl rfl rfl rfl rfl rfl rfl ?_ ;intro s hh)) |(refine kCallN 59 ?_ ;first |(refine LOps.drawH 1 rfl rfl ok59 hh rfl rfl ?_ (specl1Below_d hb (by omega)) ?_ ;(focus (first | assumption | omega)) ;intro s x i h hq hi hh ;try dsimp only)) |(refine kCallN 72 ?_ ;first |(refine LOps.drawH 2 rfl rfl ok72 hh rfl rfl ?_ (specl1Once_d hb (by omega)) ?_ ;(focus (first | assumption | omega)) ;intro s x i h hq hi hh ;try dsimp only)) |(refine kOps ?_;first |(refine LOps.nil ?_) |(refine' LOps.ans (v := .agg _) (AnsL.buildZ tT_ok rfl rfl rfl rfl ?_) ?_;rotate_left 1;(focus ((repeat' first |(exact Fills.nil) |(refine' Fills.cons rfl rfl rfl rfl ?_));done))) |(refine LOps.ev tT_ok rfl ?_) |(refine kBin ?_;first |(refine LOps.ans (AnsL.add rfl rfl ?_) ?_;(focus (constructor <;> omega))))) |(refine kWL ?_;first |(refine WL.seq ?_) |(refine WL.region (by kernel_rfl) ?_) |(refine WL.block ?_)) |(refine lthen_n ?_)
 rename_i nb _ _ nr _ _ D _ _ _ _ _ _ _ _ _
 obtain ⟨X,rfl⟩:∃ X,X=x:=⟨x,rfl⟩
 obtain ⟨m,rfl⟩:∃ m,m=n:=⟨n,rfl⟩
 replace hh:=hh.nil0.nil0
 refine WL.loopH (fun y:((List Int × Nat × Nat) × (List (List PE) × Nat × Nat)) × Int × Int=>(1+X - y.1.1.1.length).toNat)
   (fun y=>[(0,.ptr l 0),(2,envW env),(3,.sl 0 (types.map iV)),(4,.int .i64 deep),(6,.ptr nb 0),(10,.ptr nr 0),(11,.ptr m 0),(12,.int .i64 (1+X)),(13,.int .i64 (y.1.1.1.length:Int))])
   (fun y => .own (.slm (.is y.1.1.2.1) y.1.1.2.2 0 y.1.1.1.length) (.sl 0 (y.1.1.1.map iV)) :: .own (.slm (.is y.1.2.2.1) y.1.2.2.2 0 y.1.2.1.length) (.sl 0 (y.1.2.1.map PE.vS)) :: .cell l (curC b y.2.1 y.2.2) ::
     .cell m [.slm (.is y.1.1.2.1) y.1.1.2.2 0 y.1.1.1.length,.slm (.is y.1.2.2.1) y.1.2.2.2 0 y.1.2.1.length,.slm (.is 0) 0 0 0,.slm (.is 0) 0 0 0,.slm (.is 0) 0 0 0,.slm (.is 0) 0 0 0,.bool D,.int .i64 (-1)] ::
     .cell nr [.nilsl,.nilsl,.nilsl,.nilsl,.nilsl,.nilsl,.bool false,.int .i64 0] :: .cell nb [.sl 0 (ts.map Tab.toV)]::H)
   (fun y=>(((y.1.1.1.length:Int)≤1+X∧y.1.2.1.length=y.1.1.1.length)∧∀ r∈y.1.2.1,r.length≤1∧∀ e∈r,wgt e.v≤w)∧0≤y.2.1) ((([],0,0),([],0,0)),i,h) ⟨⟨⟨by simp;omega,rfl⟩,by simp⟩,hi⟩ ⟨rfl,rfl,rfl,rfl,rfl,rfl,rfl,rfl,rfl,trivial⟩ hh ?_ (fun y s hI hh=>?_)
 · dsimp only
   (repeat' first |(exact Sel.nil) |(exact Sel.refl _) |(refine' Sel.p ?_ ?_;rotate_left 1;(focus (((repeat' first |(exact Pick.here) |(refine' Pick.there ?_));done)))))
 obtain ⟨⟨⟨ks,c0,l0⟩,⟨os,c1,l1⟩⟩,i,h⟩:=y
 obtain ⟨⟨⟨hI,ho⟩,hwI⟩,hi⟩:=hI
 dsimp only at hI ho hwI hi hh ⊢
 by_cases hlt:(ks.length:Int)<1+X
 · have hRT:∀ (x:Int) (t:S),VCalls Try.prog 118 [catV ts,.sl 0 (ks.map iV++[iV x])] t (fun v t'=>Own2 (.tup [ints (rowTy ⟨ts⟩ (ks++[x])).1,.bool (rowTy ⟨ts⟩ (ks++[x])).2]) v t'):=fun x t=>by
     have:=specRowTypes_o ⟨ts⟩ (ks++[x]) hcw (by simp;omega) t
     simpa [ints,Cat.toV] using this
   have hpl:∀ (R:List Int) (o:Bool),V.plainL [ints R,.bool o]=true:=fun R o=>plainL_cons (plain_IntS R) rfl
   have hpc:V.plain (catV ts)=true:=plainL_cons (plain_TableS ts) rfl
   have hrow:∀ (x:Int),∀ r∈(rowTy ⟨ts⟩ (ks++[x])).1::env,r.length≤1000:=fun x r hr=>by
     rcases List.mem_cons.1 hr with rfl | hr
     · have:=rowTy_small ⟨ts⟩ hts (ks++[x])
       simp only [List.length_append,List.length_cons,List.length_nil] at this
       omega
     · exact hE.2.2 r hr
   have hlen:∀ R:List Int,(R::env).length≤N+1:=fun R=>by simp only [List.length_cons];omega
   repeat' first |(refine kStore ?_ ;first |(refine LOps.storeH tT_ok 3 hh rfl rfl rfl rfl rfl rfl rfl rfl rfl ?_ ;intro s hh)) |(refine kBsl ?_ ;first |(refine LOps.ans (AnsL.bslE tT_ok rfl rfl rfl rfl rfl rfl rfl rfl ?_) ?_ ;(focus ((repeat' first |(exact ElsH.of rfl));done))) |(refine LOps.ans (AnsL.bslN tT_ok rfl rfl rfl rfl rfl) ?_)) |(refine kApp ?_ ;first |(refine' LOps.appW tT_ok 1 rfl rfl rfl rfl rfl rfl rfl rfl rfl rfl hh ?_ ?_ ?_ (AppB.of ?_ rfl) ?_ ;rotate_left 2 ;(focus (first |(intro x hx;obtain ⟨y,_,rfl⟩:=List.mem_map.1 hx;first | rfl | exact PE.cells_len _ | exact PE.planV_len _))) ;(focus ((repeat' first |(exact ConsOL.nil) |(exact ConsO.scal rfl) |(refine' ConsOL.cons ?_ ?_));done)) ;(focus ((repeat' first |(exact Elems.of rfl));done)) ;(focus (first | omega |(simp ;omega))) ;intro s c n hh) |(refine' LOps.appW tT_ok 2 rfl rfl rfl rfl rfl rfl rfl rfl rfl rfl hh ?_ ?_ ?_ (AppB.of ?_ rfl) ?_ ;rotate_left 2 ;(focus (first |(intro x hx;obtain ⟨y,_,rfl⟩:=List.mem_map.1 hx;first | rfl | exact PE.cells_len _ | exact PE.planV_len _))) ;(focus ((repeat' first |(exact ConsOL.nil) |(exact ConsO.slm0) |(refine' ConsOL.cons ?_ ?_));done)) ;(focus ((repeat' first |(exact Elems.of rfl));done)) ;(focus (first | omega |(simp ;omega))) ;intro s c n hh) |(refine' LOps.appW tT_ok 3 rfl rfl rfl rfl rfl rfl rfl rfl rfl rfl hh ?_ ?_ ?_ (AppB.of ?_ rfl) ?_ ;rotate_left 2 ;(focus (first |(intro x hx;obtain ⟨y,_,rfl⟩:=List.mem_map.1 hx;first | rfl | exact PE.cells_len _ | exact PE.planV_len _))) ;(focus ((repeat' first |(exact ConsOL.nil) |(refine' ConsO.op ?_;((repeat' first |(exact Pick.here));done)) |(refine' ConsOL.cons ?_ ?_));done)) ;(focus ((repeat' first |(exact Elems.of rfl));done)) ;(focus (first | omega |(simp ;omega))) ;intro s c n hh) |(refine' LOps.appS tT_ok rfl rfl rfl rfl rfl rfl rfl rfl hh ?_ ?_ (AppB.of ?_ rfl) ?_ ;rotate_left 2 ;(focus ((repeat' first |(exact ConsOL.nil) |(exact ConsO.scal rfl) |(refine' ConsO.op ?_;((repeat' first |(exact Pick.here) |(refine' Pick.there ?_));done)) |(refine' ConsOL.cons ?_ ?_) |(refine' ConsO.agg ?_));done)) ;(focus ((repeat' first |(exact Elems.of rfl));done)) ;(focus (first | omega |(simp <;> fail))) ;intro s c n hh)) |(refine kCallN 59 ?_ ;first |(refine LOps.drawH 2 rfl rfl ok59 hh rfl rfl ?_ (specl1Below_d hb (by omega)) ?_ ;(focus (first | assumption | omega)) ;intro s x i h hq hi hh ;try dsimp only)) |(refine kCallN 72 ?_ ;first |(refine LOps.drawH 1 rfl rfl ok72 hh rfl rfl ?_ (specl1Once_d hb (by omega)) ?_ ;(focus (first | assumption | omega)) ;intro s x i h hq hi hh ;try dsimp only)) |(refine kCallN 58 ?_ ;first |(refine LOps.drawB 0 rfl rfl ok58 hh (he _ _ (hlen _) (hrow _)) .nil rfl rfl ?_ ?_ ;(focus (first | assumption | omega)) ;intro s y i h hq hi hh ;try dsimp only [List.cons_append,List.nil_append] at hh)) |(refine kOps ?_;first |(refine LOps.nil ?_) |(refine kG ?_;first |(refine LOps.gT rfl rfl rfl ?_) |(refine LOps.gF rfl rfl rfl ?_) |(refine LOps.gC rfl rfl rfl (fun h=>?_) (fun h=>?_))) |(refine LOps.ev tT_ok rfl ?_) |(refine kLoad ?_;first |(refine LOps.ans (AnsL.loadH tT_ok 3 hh rfl rfl rfl rfl) ?_) |(refine LOps.ans (AnsL.loadH tT_ok 4 hh rfl rfl rfl rfl) ?_) |(refine LOps.ans (AnsL.loadH tT_ok 5 hh rfl rfl rfl rfl) ?_)) |(refine kBin ?_;first |(refine LOps.ans (AnsL.add rfl rfl ?_) ?_;(focus (constructor <;> omega)))) |(refine kCall ?_;first |(refine LOps.ans (AnsL.callP rfl rfl rfl ok118 (VCalls.pureLendT hh (.cons (.pl hpc) (.cons (.own (.head _)) .nil)) (hpl _ _) (hRT _))) ?_)) |(refine kCallN 120 ?_;first |(refine LOps.ans (AnsL.callP rfl rfl rfl (ok120) (specl20Env_w _ _ ?_ _)) ?_;(focus (omega))))) |(refine kWL ?_;first |(refine WL.seq ?_) |(refine WL.region (by kernel_rfl) ?_) |(refine WL.drawn (id:=6) [0,1,2,3,4,5,6,7,8,9,10] [6,8,10] [[],[0],[],[],[3],[3,4],[2,3,4,5],[2,3,4,5,6],[0,1,2,3,4,5,6,7],[0,1,2,3,4,5,6,7,8],[0,1,2,3,4,5,6,7,8,9]] (by kernel_rfl) (by kernel_rfl) ?_) |(refine WL.drawn (id:=10) [0,1,2,3,4,6,5,7,8,9,10] [5,7,9,10] [[],[],[],[],[],[3,4],[],[1,2,3,4,5,6],[1,2,3,4,5,6,7],[0,1,2,3,4,5,6,7,8],[0,1,2,3,4,5,6,7,8,9]] (by kernel_rfl) (by kernel_rfl) ?_) |(refine WL.block ?_) |(refine WL.skip ?_) |(refine kCond ?_;first |(refine WL.condF rfl ?_) |(refine WL.condT' rfl ?_ ?_;(focus (first |(exact decide_eq_true (by assumption))))) |(refine WL.cond rfl (fun h=>?_) (fun h=>?_)))) |(refine kDr ?_;first |(refine LDr.nil ?_) |(refine LDr.fl rfl rfl (.ev tT_ok rfl) ?_) |(refine LDr.fl rfl rfl (AnsL.bslF tT_ok rfl rfl rfl rfl rfl rfl rfl rfl rfl) ?_) |(refine kDLoad rfl ?_;first |(refine LDr.fl rfl rfl (AnsL.loadH tT_ok 3 hh rfl rfl rfl rfl) ?_) |(refine LDr.fl rfl rfl (AnsL.loadH tT_ok 5 hh rfl rfl rfl rfl) ?_)) |(refine kDLen rfl ?_;first |(refine LDr.fl rfl rfl (AnsL.lenM tT_ok rfl rfl rfl) ?_)) |(refine LDr.eff rfl rfl rfl ?_)) |(refine lthen_n ?_) |(refine lblock_n ?_) |(refine And.intro ?_ ?_) |(exact StsL.nil) |(refine StsL.cons ?_ ?_) |(refine StL.fl rfl rfl (.ev tT_ok rfl)) |(refine StL.fl rfl rfl (AnsL.loadH tT_ok 3 hh rfl rfl rfl rfl)) |(refine StL.fl rfl rfl (AnsL.loadH tT_ok 5 hh rfl rfl rfl rfl))
   · skip
     all_goals
       try simp only [PE.q_eq,List.length_append,List.length_map,List.length_cons,List.length_nil,Nat.zero_add,PE.vS] at hh
       refine' lbackH.of ((((ks++[_],_,_),(os++[[y.1]],_,_)),_,_)) ?_ hh ?_ ?_ ?_
       rotate_left 8
       · dsimp only;(try simp only [List.map_append,List.map_cons,List.map_nil,PE.vS,List.length_append,List.length_map,List.length_cons,List.length_nil,Nat.zero_add]);(repeat' first |(exact Sel.nil) |(exact Sel.refl _) |(refine' Sel.p ?_ ?_;rotate_left 1;(focus (((repeat' first |(exact Pick.here) |(refine' Pick.there ?_));done)))));done
       · dsimp only;refine ⟨⟨⟨by simp;omega,by simp;omega⟩,fun r hr=>?_⟩,by assumption⟩;rcases List.mem_append.1 hr with hr | hr;exact hwI r hr;rw [List.mem_singleton] at hr;subst hr;simp;try assumption
       · dsimp only;first | omega |(simp;omega) |(simp_all;omega)
       · repeat' first | exact SubL.nil |(refine SubL.mk rfl ?_ ?_) | rfl |(simp;done) |(simp;omega)
   all_goals
     first
       | skip
         all_goals
           try simp only [PE.q_eq,List.length_append,List.length_map,List.length_cons,List.length_nil,Nat.zero_add,PE.vS] at hh
           refine' lbackH.of ((((ks++[_],_,_),(os++[[]],_,_)),_,_)) ?_ hh ?_ ?_ ?_
           rotate_left 8
           · dsimp only;(try simp only [List.map_append,List.map_cons,List.map_nil,PE.vS,List.length_append,List.length_map,List.length_cons,List.length_nil,Nat.zero_add]);(repeat' first |(exact Sel.nil) |(exact Sel.refl _) |(refine' Sel.p ?_ ?_;rotate_left 1;(focus (((repeat' first |(exact Pick.here) |(refine' Pick.there ?_));done)))));done
           · dsimp only;refine ⟨⟨⟨by simp;omega,by simp;omega⟩,fun r hr=>?_⟩,by assumption⟩;rcases List.mem_append.1 hr with hr | hr;exact hwI r hr;rw [List.mem_singleton] at hr;subst hr;simp;try assumption
           · dsimp only;first | omega |(simp;omega) |(simp_all;omega)
           · repeat' first | exact SubL.nil |(refine SubL.mk rfl ?_ ?_) | rfl |(simp;done) |(simp;omega)
 have hRT:∀ (t:S),VCalls Try.prog 118 [catV ts,.sl 0 (ks.map iV)] t (fun v t'=>Own2 (.tup [ints (rowTy ⟨ts⟩ ks).1,.bool (rowTy ⟨ts⟩ ks).2]) v t'):=fun t=>by
   have:=specRowTypes_o ⟨ts⟩ ks hcw (by omega) t
   simpa [ints,Cat.toV] using this
 have hpl:∀ (R:List Int) (o:Bool),V.plainL [ints R,.bool o]=true:=fun R o=>plainL_cons (plain_IntS R) rfl
 have hpc:V.plain (catV ts)=true:=plainL_cons (plain_TableS ts) rfl
 have hrow:∀ r∈(rowTy ⟨ts⟩ ks).1::env,r.length≤1000:=fun r hr=>by
   rcases List.mem_cons.1 hr with rfl | hr
   · have:=rowTy_small ⟨ts⟩ hts ks
     omega
   · exact hE.2.2 r hr
 have hlen:((rowTy ⟨ts⟩ ks).1::env).length≤N+1:=by simp only [List.length_cons];omega
 repeat' first |(refine kOps ?_;first |(refine LOps.nil ?_) |(refine LOps.ev tT_ok rfl ?_) |(refine kLoad ?_;first |(refine LOps.ans (AnsL.loadH tT_ok 3 hh rfl rfl rfl rfl) ?_) |(refine LOps.ans (AnsL.loadH tT_ok 5 hh rfl rfl rfl rfl) ?_)) |(refine kCall ?_;first |(refine LOps.ans (AnsL.callP rfl rfl rfl ok118 (VCalls.pureLendT hh (.cons (.pl hpc) (.cons (.own (.head _)) .nil)) (hpl _ _) (fun t=>hRT t))) ?_)) |(refine kCallN 120 ?_;first |(refine LOps.ans (AnsL.callP rfl rfl rfl (ok120) (specl20Env_w _ _ ?_ _)) ?_;(focus (omega))))) |(refine kWL ?_;first |(refine WL.seq ?_) |(refine WL.region (by kernel_rfl) ?_) |(refine WL.block ?_) |(refine WL.exit ?_) |(refine kCond ?_;first |(refine WL.condF' rfl ?_ ?_;(focus (first |(exact decide_eq_false (by assumption))))))) |(refine lthen_n ?_) |(refine lthen_e ?_) |(refine lblock_e ?_) |(refine lbackH_e ?_)
 generalize (rowTy ⟨ts⟩ ks).1=R at hrow hlen ⊢
 have hee:=fun ty=>he (R::env) ty hlen hrow
 replace hh:=hh.nil0.nil0
 refine WL.loopH (fun y:((List PE × Nat × Nat) × (List (List UInt8) × Nat × Nat)) × Int × Int=>types.length - y.1.1.1.length)
   (fun y=>[(0,.ptr l 0),(3,.sl 0 (types.map iV)),(4,.int .i64 deep),(6,.ptr nb 0),(10,.ptr nr 0),(11,.ptr m 0),(19,envW (R::env)),(20,.int .i64 (y.1.1.1.length:Int))])
   (fun y => .own (.slm (.is y.1.1.2.1) y.1.1.2.2 0 y.1.1.1.length) (.sl 0 (y.1.1.1.map PE.toV)) :: .own (.slm (.is y.1.2.2.1) y.1.2.2.2 0 y.1.2.1.length) (.sl 0 (y.1.2.1.map sV)) :: .cell l (curC b y.2.1 y.2.2) ::
     .cell m [.slm (.is c0) l0 0 ks.length,.slm (.is c1) l1 0 os.length,.slm (.is 0) 0 0 0,.slm (.is 0) 0 0 0,.slm (.is y.1.1.2.1) y.1.1.2.2 0 y.1.1.1.length,.slm (.is y.1.2.2.1) y.1.2.2.2 0 y.1.2.1.length,.bool D,.int .i64 (-1)] ::
     .cell nr [.nilsl,.nilsl,.nilsl,.nilsl,.nilsl,.nilsl,.bool false,.int .i64 0] :: .cell nb [.sl 0 (ts.map Tab.toV)] :: .own (.slm (.is c0) l0 0 ks.length) (.sl 0 (ks.map iV)) :: .own (.slm (.is c1) l1 0 os.length) (.sl 0 (os.map PE.vS))::H)
   (fun y=>((y.1.1.1.length≤types.length∧y.1.2.1.length=y.1.1.1.length)∧(∀ e∈y.1.1.1,wgt e.v≤w)∧∀ q∈y.1.2.1,q.length≤6)∧0≤y.2.1) ((([],0,0),([],0,0)),i,h) ⟨⟨⟨by simp,rfl⟩,by simp,by simp⟩,hi⟩ ⟨rfl,rfl,rfl,rfl,rfl,rfl,rfl,rfl,trivial⟩ hh ?_ (fun y s hI hh=>?_)
 · dsimp only
   (repeat' first |(exact Sel.nil) |(exact Sel.refl _) |(refine' Sel.p ?_ ?_;rotate_left 1;(focus (((repeat' first |(exact Pick.here) |(refine' Pick.there ?_));done)))))
 obtain ⟨⟨⟨is,c4,l4⟩,⟨ns,c5,l5⟩⟩,i,h⟩:=y
 obtain ⟨⟨⟨hI1,hn1⟩,hwI1,hsI⟩,hi⟩:=hI
 dsimp only at hI1 hn1 hwI1 hsI hi hh ⊢
 rcases Nat.lt_or_ge is.length types.length with hlt1 | hge1
 · have hga:(types.map iV)[is.length]?=some (.int .i64 types[is.length]):=by simp [hlt1,iV]
   generalize types[is.length]=ty at hga
   repeat' first |(refine kStore ?_ ;first |(refine LOps.storeH tT_ok 3 hh rfl rfl rfl rfl rfl rfl rfl rfl rfl ?_ ;intro s hh)) |(refine kApp ?_ ;first |(refine' LOps.appW tT_ok 2 rfl rfl rfl rfl rfl rfl rfl rfl rfl rfl hh ?_ ?_ ?_ (AppB.of ?_ rfl) ?_ ;rotate_left 2 ;(focus (first |(intro x hx;obtain ⟨y,_,rfl⟩:=List.mem_map.1 hx;first | rfl | exact PE.cells_len _ | exact PE.planV_len _))) ;(focus ((repeat' first |(exact ConsOL.nil) |(exact ConsO.scal rfl) |(refine' ConsOL.cons ?_ ?_));done)) ;(focus ((repeat' first |(exact Elems.of rfl));done)) ;(focus (first | omega |(simp ;omega))) ;intro s c n hh) |(refine' LOps.appW tT_ok 3 rfl rfl rfl rfl rfl rfl rfl rfl rfl rfl hh ?_ ?_ ?_ (AppB.of ?_ rfl) ?_ ;rotate_left 2 ;(focus (first |(intro x hx;obtain ⟨y,_,rfl⟩:=List.mem_map.1 hx;first | rfl | exact PE.cells_len _ | exact PE.planV_len _))) ;(focus ((repeat' first |(exact ConsOL.nil) |(exact ConsO.scal rfl) |(refine' ConsO.op ?_;((repeat' first |(exact Pick.here) |(refine' Pick.there ?_));done)) |(refine' ConsOL.cons ?_ ?_) |(refine' ConsO.agg ?_));done)) ;(focus ((repeat' first |(exact Elems.of rfl));done)) ;(focus (first | omega |(simp ;omega))) ;intro s c n hh)) |(refine kCallN 92 ?_ ;first |(refine LOps.drawH 1 rfl rfl ok92 hh rfl rfl ?_ (specl1Pick_d hb rfl (by simp)) ?_ ;(focus (first | assumption | omega)) ;intro s x i h hq hi hh ;try dsimp only)) |(refine kCallN 58 ?_ ;first |(refine LOps.drawB 2 rfl rfl ok58 hh (hee _) .nil rfl rfl ?_ ?_ ;(focus (first | assumption | omega)) ;intro s y i h hq hi hh ;try dsimp only [List.cons_append,List.nil_append] at hh)) |(refine kOps ?_;first |(refine LOps.nil ?_) |(refine LOps.ev tT_ok rfl ?_) |(refine kLen ?_;first |(refine LOps.ans (AnsL.lenM tT_ok rfl rfl rfl) ?_)) |(refine kBin ?_;first |(refine LOps.ans (AnsL.add rfl rfl ?_) ?_;(focus (constructor <;> omega))))) |(refine kWL ?_;first |(refine WL.seq ?_) |(refine WL.region (by kernel_rfl) ?_) |(refine WL.drawn (id:=17) [0,1,2,3,4,5,6,7,8,9,10,11,12,13,14] [10,12,14] [[],[0],[],[],[],[],[],[5,6],[5,6,7],[],[2,3,4,5,6,7,8,9],[2,3,4,5,6,7,8,9,10],[0,1,2,3,4,5,6,7,8,9,10,11],[0,1,2,3,4,5,6,7,8,9,10,11,12],[0,1,2,3,4,5,6,7,8,9,10,11,12,13]] (by kernel_rfl) (by kernel_rfl) ?_) |(refine WL.drawn (id:=18) [0,1,2,3,4,5,6,7,8] [4,6,8] [[],[0],[],[],[2,3],[2,3,4],[0,1,2,3,4,5],[0,1,2,3,4,5,6],[0,1,2,3,4,5,6,7]] (by kernel_rfl) (by kernel_rfl) ?_) |(refine WL.block ?_) |(refine WL.skip ?_) |(refine kCond ?_;first |(refine WL.condT' rfl ?_ ?_;(focus (first |(simp <;> omega)))))) |(refine kDr ?_;first |(refine LDr.nil ?_) |(refine LDr.fl rfl rfl (.ev tT_ok rfl) ?_) |(refine LDr.fl rfl rfl (AnsL.bslF tT_ok rfl rfl rfl rfl rfl rfl rfl rfl rfl) ?_) |(refine kDLoad rfl ?_;first |(refine LDr.fl rfl rfl (AnsL.loadH tT_ok 3 hh rfl rfl rfl rfl) ?_) |(refine LDr.fl rfl rfl (AnsL.loadH tT_ok 5 hh rfl rfl rfl rfl) ?_)) |(refine kDIdx rfl ?_;first |(refine LDr.fl rfl rfl (AnsL.idx tT_ok rfl rfl rfl rfl rfl hga rfl rfl) ?_)) |(refine LDr.eff rfl rfl rfl ?_)) |(refine lthen_n ?_) |(refine lblock_n ?_) |(refine And.intro ?_ ?_) |(exact StsL.nil) |(refine StsL.cons ?_ ?_) |(refine StL.fl rfl rfl (.ev tT_ok rfl)) |(refine StL.fl rfl rfl (AnsL.loadH tT_ok 3 hh rfl rfl rfl rfl)) |(refine StL.fl rfl rfl (AnsL.loadH tT_ok 5 hh rfl rfl rfl rfl))
   all_goals
     try simp only [PE.q_eq,List.length_append,List.length_map,List.length_cons,List.length_nil,Nat.zero_add] at hh
     refine' lbackH.of ((((is++[y.1],_,_),(ns++[_],_,_)),_,_)) ?_ hh ?_ ?_ ?_
     rotate_left 8
     · dsimp only;(try simp only [List.map_append,List.map_cons,List.map_nil,PE.vS,List.length_append,List.length_map,List.length_cons,List.length_nil,Nat.zero_add]);(repeat' first |(exact Sel.nil) |(exact Sel.refl _) |(refine' Sel.p ?_ ?_;rotate_left 1;(focus (((repeat' first |(exact Pick.here) |(refine' Pick.there ?_));done)))));done
     · dsimp only;refine ⟨⟨⟨by simp;omega,by simp;omega⟩,fun e he'=>?_,fun q hq'=>?_⟩,by assumption⟩;rcases List.mem_append.1 he' with he' | he';exact hwI1 e he';rw [List.mem_singleton] at he';subst he';assumption;rcases List.mem_append.1 hq' with hq' | hq';exact hsI q hq';rw [List.mem_singleton] at hq';subst hq';exact Nat.le_trans (pick_len (n:=3) (by assumption) rfl) (by omega)
     · dsimp only;first | omega |(simp;omega) |(simp_all;omega)
     · repeat' first | exact SubL.nil |(refine SubL.mk rfl ?_ ?_) | rfl |(simp;done) |(simp;omega)
 have hX:X≤1:=by omega
 repeat' first |(refine kCallN 72 ?_ ;first |(refine LOps.drawH 2 rfl rfl ok72 hh rfl rfl ?_ (specl1Once_d hb (by omega)) ?_ ;(focus (first | assumption | omega)) ;intro s x i h hq hi hh ;try dsimp only)) |(refine kOps ?_;first |(refine LOps.nil ?_) |(refine LOps.ev tT_ok rfl ?_) |(refine kLen ?_;first |(refine LOps.ans (AnsL.lenM tT_ok rfl rfl rfl) ?_))) |(refine kWL ?_;first |(refine WL.seq ?_) |(refine WL.region (by kernel_rfl) ?_) |(refine WL.exit ?_) |(refine kCond ?_;first |(refine WL.condF' rfl ?_ ?_;(focus (first |(simp <;> omega)))))) |(refine lthen_n ?_) |(refine lthen_e ?_) |(refine lblock_e ?_) |(refine lbackH_e ?_)
 refine WL.cutH (fun _:(List PE × Nat × Nat) × Int × Int=>[(0,.ptr l 0),(4,.int .i64 deep),(6,.ptr nb 0),(10,.ptr nr 0),(11,.ptr m 0),(19,envW (R::env))]) (fun y => .own (.slm (.is y.1.2.1) y.1.2.2 0 y.1.1.length) (.sl 0 (y.1.1.map PE.toV)) :: .cell l (curC b y.2.1 y.2.2) :: .cell m [.slm (.is c0) l0 0 ks.length,.slm (.is c1) l1 0 os.length,.slm (.is y.1.2.1) y.1.2.2 0 y.1.1.length,.slm (.is 0) 0 0 0,.slm (.is c4) l4 0 is.length,.slm (.is c5) l5 0 ns.length,.bool D,.int .i64 (-1)] :: .cell nr [.nilsl,.nilsl,.nilsl,.nilsl,.nilsl,.nilsl,.bool false,.int .i64 0] :: .cell nb [.sl 0 (ts.map Tab.toV)] :: .own (.slm (.is c4) l4 0 is.length) (.sl 0 (is.map PE.toV)) :: .own (.slm (.is c5) l5 0 ns.length) (.sl 0 (ns.map sV)) :: .own (.slm (.is c0) l0 0 ks.length) (.sl 0 (ks.map iV)) :: .own (.slm (.is c1) l1 0 os.length) (.sl 0 (os.map PE.vS))::H)
   (fun y=>(y.1.1.length≤1∧∀ e∈y.1.1,wgt e.v≤w)∧0≤y.2.1) ?_ (fun y s hI hh=>?_)
 · skip
   repeat' first |(refine kStore ?_ ;first |(refine LOps.storeH tT_ok 4 hh rfl rfl rfl rfl rfl rfl rfl rfl rfl ?_ ;intro s hh)) |(refine kBsl ?_ ;first |(refine' LOps.bslO (d:=117) tT_ok rfl rfl rfl rfl rfl rfl rfl rfl hh ?_ ?_ ?_ ;rotate_left 2 ;(focus ((repeat' first |(exact ConsOL.nil) |(exact ConsO.scal rfl) |(refine' ConsO.op ?_;((repeat' first |(exact Pick.here) |(refine' Pick.there ?_));done)) |(refine' ConsOL.cons ?_ ?_) |(refine' ConsO.agg ?_));done)) ;(focus ((repeat' first |(exact ElsH.of rfl));done)) ;intro s n hh)) |(refine kCallN 58 ?_ ;first |(refine LOps.drawB 0 rfl rfl ok58 hh (hee _) .nil rfl rfl ?_ ?_ ;(focus (first | assumption | omega)) ;intro s y i h hq hi hh ;try dsimp only [List.cons_append,List.nil_append] at hh)) |(refine kOps ?_;first |(refine LOps.nil ?_) |(refine LOps.ev tT_ok rfl ?_) |(refine kLoad ?_;first |(refine LOps.ans (AnsL.loadH tT_ok 5 hh rfl rfl rfl rfl) ?_))) |(refine kWL ?_;first |(refine WL.region (by kernel_rfl) ?_) |(refine WL.skip ?_) |(refine kCond ?_;first |(refine WL.cond rfl (fun h=>?_) (fun h=>?_))))
   · skip
     all_goals
       try simp only [PE.q_eq,List.length_append,List.length_map,List.length_cons,List.length_nil,Nat.zero_add] at hh
       refine' CutH.of ((([y.1],_,_),_,_)) ?_ hh ?_ ?_
       rotate_left 5
       · try dsimp only
         (try simp only [List.map_append,List.map_cons,List.map_nil,PE.vS,List.length_append,List.length_map,List.length_cons,List.length_nil,Nat.zero_add]);(repeat' first |(exact Sel.nil) |(exact Sel.refl _) |(refine' Sel.p ?_ ?_;rotate_left 1;(focus (((repeat' first |(exact Pick.here) |(refine' Pick.there ?_));done)))));done
       · try dsimp only
         exact ⟨⟨by simp,fun e he'=>by rw [List.mem_singleton] at he';subst he';assumption⟩,by assumption⟩
       · repeat' first | exact SubL.nil |(refine SubL.mk rfl ?_ ?_) | rfl |(simp;done) |(simp;omega)
   replace hh:=hh.nil0
   all_goals
     try simp only [PE.q_eq,List.length_append,List.length_map,List.length_cons,List.length_nil,Nat.zero_add] at hh
     refine' CutH.of ((([],0,0),_,_)) ?_ hh ?_ ?_
     rotate_left 3
     · try dsimp only
       (try simp only [List.map_append,List.map_cons,List.map_nil,PE.vS,List.length_append,List.length_map,List.length_cons,List.length_nil,Nat.zero_add]);(repeat' first |(exact Sel.nil) |(exact Sel.refl _) |(refine' Sel.p ?_ ?_;rotate_left 1;(focus (((repeat' first |(exact Pick.here) |(refine' Pick.there ?_));done)))));done
     · try dsimp only
       exact ⟨⟨by simp,by simp⟩,by assumption⟩
     · repeat' first | exact SubL.nil |(refine SubL.mk rfl ?_ ?_) | rfl |(simp;done) |(simp;omega)
 obtain ⟨⟨ws,c2,l2⟩,i,h⟩:=y
 obtain ⟨⟨hw1,hw2⟩,hi⟩:=hI
 dsimp only at hw1 hw2 hi hh ⊢
 repeat' first |(refine kCallN 72 ?_ ;first |(refine LOps.drawH 1 rfl rfl ok72 hh rfl rfl ?_ (specl1Once_d hb (by omega)) ?_ ;(focus (first | assumption | omega)) ;intro s x i h hq hi hh ;try dsimp only)) |(refine kOps ?_;first |(refine LOps.nil ?_) |(refine LOps.ev tT_ok rfl ?_)) |(refine kWL ?_;first |(refine WL.seq ?_) |(refine WL.region (by kernel_rfl) ?_)) |(refine lthen_n ?_)
 refine WL.cutH (fun _:(List (PE × Bool) × Nat × Nat) × Int × Int=>[(0,.ptr l 0),(4,.int .i64 deep),(6,.ptr nb 0),(10,.ptr nr 0),(11,.ptr m 0),(19,envW (R::env))]) (fun y => .own (.slm (.is y.1.2.1) y.1.2.2 0 y.1.1.length) (.sl 0 (y.1.1.map PE.sv)) :: .cell l (curC b y.2.1 y.2.2) :: .cell m [.slm (.is c0) l0 0 ks.length,.slm (.is c1) l1 0 os.length,.slm (.is c2) l2 0 ws.length,.slm (.is y.1.2.1) y.1.2.2 0 y.1.1.length,.slm (.is c4) l4 0 is.length,.slm (.is c5) l5 0 ns.length,.bool D,.int .i64 (-1)] :: .cell nr [.nilsl,.nilsl,.nilsl,.nilsl,.nilsl,.nilsl,.bool false,.int .i64 0] :: .cell nb [.sl 0 (ts.map Tab.toV)] :: .own (.slm (.is c2) l2 0 ws.length) (.sl 0 (ws.map PE.toV)) :: .own (.slm (.is c4) l4 0 is.length) (.sl 0 (is.map PE.toV)) :: .own (.slm (.is c5) l5 0 ns.length) (.sl 0 (ns.map sV)) :: .own (.slm (.is c0) l0 0 ks.length) (.sl 0 (ks.map iV)) :: .own (.slm (.is c1) l1 0 os.length) (.sl 0 (os.map PE.vS))::H)
   (fun y=>(y.1.1.length≤1∧∀ e∈y.1.1,wgt e.1.v≤w)∧0≤y.2.1) ?_ (fun y s hI hh=>?_)
 · skip
   repeat' first |(refine kStore ?_ ;first |(refine LOps.storeH tT_ok 3 hh rfl rfl rfl rfl rfl rfl rfl rfl rfl ?_ ;intro s hh)) |(refine kApp ?_ ;first |(refine' LOps.appS tT_ok rfl rfl rfl rfl rfl rfl rfl rfl hh ?_ ?_ (AppB.of ?_ rfl) ?_ ;rotate_left 2 ;(focus ((repeat' first |(exact ConsOL.nil) |(exact ConsO.scal rfl) |(refine' ConsO.op ?_;((repeat' first |(exact Pick.here) |(refine' Pick.there ?_));done)) |(refine' ConsOL.cons ?_ ?_) |(refine' ConsO.agg ?_));done)) ;(focus ((repeat' first |(exact Elems.of rfl));done)) ;(focus (first | omega |(simp <;> fail))) ;intro s c n hh)) |(refine kCallN 59 ?_ ;first |(refine LOps.drawH 0 rfl rfl ok59 hh rfl rfl ?_ (specl1Below_d hb (by omega)) ?_ ;(focus (first | assumption | omega)) ;intro s x i h hq hi hh ;try dsimp only)) |(refine kCallN 72 ?_ ;first |(refine LOps.drawH 2 rfl rfl ok72 hh rfl rfl ?_ (specl1Once_d hb (by omega)) ?_ ;(focus (first | assumption | omega)) ;intro s x i h hq hi hh ;try dsimp only)) |(refine kCallN 58 ?_ ;first |(refine LOps.drawB 0 rfl rfl ok58 hh (hee _) .nil rfl rfl ?_ ?_ ;(focus (first | assumption | omega)) ;intro s y i h hq hi hh ;try dsimp only [List.cons_append,List.nil_append] at hh)) |(refine kOps ?_;first |(refine LOps.nil ?_)) |(refine kWL ?_;first |(refine WL.drawn (id:=22) [0,1,2,3,4,5,8,10,6,7,9,11,12,13,14,15,16] [6,9,11,14,16] [[],[0],[],[],[],[],[5],[5,6],[],[2,3,4,5,6,7,8],[],[2,3,4,5,6,7,8,9,10],[2,3,4,5,6,7,8,9,10,11],[2,3,4,5,6,7,8,9,10,11,12],[0,1,2,3,4,5,6,7,8,9,10,11,12,13],[0,1,2,3,4,5,6,7,8,9,10,11,12,13,14],[0,1,2,3,4,5,6,7,8,9,10,11,12,13,14,15]] (by kernel_rfl) (by kernel_rfl) ?_) |(refine WL.skip ?_) |(refine kCond ?_;first |(refine WL.cond rfl (fun h=>?_) (fun h=>?_)))) |(refine kDr ?_;first |(refine LDr.nil ?_) |(refine' LDr.fl (v := .agg _) rfl rfl (AnsL.buildZ tT_ok rfl rfl rfl rfl ?_) ?_;rotate_left 1;(focus ((repeat' first |(exact Fills.nil) |(refine' Fills.cons rfl rfl rfl rfl ?_));done))) |(refine LDr.fl rfl rfl (.ev tT_ok rfl) ?_) |(refine LDr.fl rfl rfl (AnsL.bslF tT_ok rfl rfl rfl rfl rfl rfl rfl rfl rfl) ?_) |(refine kDLoad rfl ?_;first |(refine LDr.fl rfl rfl (AnsL.loadH tT_ok 2 hh rfl rfl rfl rfl) ?_) |(refine LDr.fl rfl rfl (AnsL.loadH tT_ok 4 hh rfl rfl rfl rfl) ?_)) |(refine kDBin rfl ?_;first |(refine LDr.fl rfl rfl (AnsL.add rfl rfl ?_) ?_;(focus (constructor <;> omega)))) |(refine LDr.eff rfl rfl rfl ?_)) |(refine And.intro ?_ ?_) |(exact StsL.nil) |(refine StsL.cons ?_ ?_) |(refine StL.fl rfl rfl (.ev tT_ok rfl)) |(refine StL.fl rfl rfl (AnsL.loadH tT_ok 2 hh rfl rfl rfl rfl)) |(refine StL.fl rfl rfl (AnsL.loadH tT_ok 4 hh rfl rfl rfl rfl))
   · skip
     all_goals
       try simp only [PE.q_eq,List.length_append,List.length_map,List.length_cons,List.length_nil,Nat.zero_add] at hh
       refine' CutH.of ((([(y.1,_)],_,_),_,_)) ?_ hh ?_ ?_
       rotate_left 6
       · try dsimp only
         (try simp only [List.map_append,List.map_cons,List.map_nil,PE.vS,List.length_append,List.length_map,List.length_cons,List.length_nil,Nat.zero_add]);(repeat' first |(exact Sel.nil) |(exact Sel.refl _) |(refine' Sel.p ?_ ?_;rotate_left 1;(focus (((repeat' first |(exact Pick.here) |(refine' Pick.there ?_));done)))));done
       · try dsimp only
         exact ⟨⟨by simp,fun e he'=>by rw [List.mem_singleton] at he';subst he';assumption⟩,by assumption⟩
       · repeat' first | exact SubL.nil |(refine SubL.mk rfl ?_ ?_) | rfl |(simp;done) |(simp;omega)
   replace hh:=hh.nil0
   all_goals
     try simp only [PE.q_eq,List.length_append,List.length_map,List.length_cons,List.length_nil,Nat.zero_add] at hh
     refine' CutH.of ((([],0,0),_,_)) ?_ hh ?_ ?_
     rotate_left 3
     · try dsimp only
       (try simp only [List.map_append,List.map_cons,List.map_nil,PE.vS,List.length_append,List.length_map,List.length_cons,List.length_nil,Nat.zero_add]);(repeat' first |(exact Sel.nil) |(exact Sel.refl _) |(refine' Sel.p ?_ ?_;rotate_left 1;(focus (((repeat' first |(exact Pick.here) |(refine' Pick.there ?_));done)))));done
     · try dsimp only
       exact ⟨⟨by simp,by simp⟩,by assumption⟩
     · repeat' first | exact SubL.nil |(refine SubL.mk rfl ?_ ?_) | rfl |(simp;done) |(simp;omega)
 obtain ⟨⟨rs,c3,l3⟩,i,h⟩:=y
 obtain ⟨⟨ho1,ho2⟩,hi⟩:=hI
 dsimp only at ho1 ho2 hi hh ⊢
 repeat' first |(refine kStore ?_ ;first |(refine LOps.storeH tT_ok 2 hh rfl rfl rfl rfl rfl rfl rfl rfl rfl ?_ ;intro s hh) |(refine LOps.storeH tT_ok 3 hh rfl rfl rfl rfl rfl rfl rfl rfl rfl ?_ ;intro s hh)) |(refine kCallN 59 ?_ ;first |(refine LOps.drawH 0 rfl rfl ok59 hh rfl rfl ?_ (specl1Below_d hb (by omega)) ?_ ;(focus (first | assumption | omega)) ;intro s x i h hq hi hh ;try dsimp only)) |(refine kCallN 72 ?_ ;first |(refine LOps.drawH 1 rfl rfl ok72 hh rfl rfl ?_ (specl1Once_d hb (by omega)) ?_ ;(focus (first | assumption | omega)) ;intro s x i h hq hi hh ;try dsimp only)) |(refine kOps ?_;first |(refine LOps.nil ?_) |(refine LOps.ev tT_ok rfl ?_) |(refine kLoad ?_;first |(refine LOps.ans (AnsL.loadH tT_ok 2 hh rfl rfl rfl rfl) ?_))) |(refine kWL ?_;first |(refine WL.seq ?_) |(refine WL.region (by kernel_rfl) ?_) |(refine WL.skip ?_) |(refine WL.ret ?_) |(refine kCond ?_;first |(refine WL.cond rfl (fun h=>?_) (fun h=>?_)))) |(refine lthen_n ?_) |(refine' LPost.r1 (r := .cell 10 44) (.inl rfl) ?_ ?_;rotate_left 1;(focus (first | exact Res1.cellH 0 tT_ok hh rfl rfl rfl rfl | exact Res1.cellH 1 tT_ok hh rfl rfl rfl rfl | exact Res1.cellH 2 tT_ok hh rfl rfl rfl rfl | exact Res1.cellH 3 tT_ok hh rfl rfl rfl rfl | exact Res1.cellH 4 tT_ok hh rfl rfl rfl rfl | exact Res1.cellH 5 tT_ok hh rfl rfl rfl rfl | exact Res1.cellH 6 tT_ok hh rfl rfl rfl rfl | exact Res1.cellH 7 tT_ok hh rfl rfl rfl rfl | exact Res1.cellH 8 tT_ok hh rfl rfl rfl rfl | exact Res1.cellH 9 tT_ok hh rfl rfl rfl rfl | exact Res1.cellH 10 tT_ok hh rfl rfl rfl rfl | exact Res1.cellH 11 tT_ok hh rfl rfl rfl rfl | exact Res1.cellHW 0 tT_ok hh rfl rfl rfl rfl | exact Res1.cellHW 1 tT_ok hh rfl rfl rfl rfl | exact Res1.cellHW 2 tT_ok hh rfl rfl rfl rfl | exact Res1.cellHW 3 tT_ok hh rfl rfl rfl rfl | exact Res1.cellHW 4 tT_ok hh rfl rfl rfl rfl | exact Res1.cellHW 5 tT_ok hh rfl rfl rfl rfl | exact Res1.cellHW 6 tT_ok hh rfl rfl rfl rfl | exact Res1.cellHW 7 tT_ok hh rfl rfl rfl rfl | exact Res1.cellHW 8 tT_ok hh rfl rfl rfl rfl | exact Res1.cellHW 9 tT_ok hh rfl rfl rfl rfl | exact Res1.cellHW 10 tT_ok hh rfl rfl rfl rfl | exact Res1.cellHW 11 tT_ok hh rfl rfl rfl rfl)))
 all_goals
   apply DrwB.fin (y:=(⟨ks,os,ws,rs,is,ns,D,_⟩,fun k=>match k with | 0=>(c0,l0) | 1=>(c1,l1) | 2=>(c2,l2) | 3=>(c3,l3) | 4=>(c4,l4) | _=>(c5,l5))) (hh:=hh)
   case hv=>rfl
   case hi=>assumption
   case hs =>
     dsimp only [PL.ob,List.cons_append,List.nil_append]
     (repeat' first |(exact Sel.nil) |(exact Sel.refl _) |(refine' Sel.p ?_ ?_;rotate_left 1;(focus (((repeat' first |(exact Pick.here) |(refine' Pick.there ?_));done)))))
     (repeat' first |(exact Sel.refl _) |(refine Sel.drop ?_))
   case hp =>
     dsimp only
     rw [PL.wgt_eq]
     dsimp only
     have g1:=wgt_sl_le (f:=iV) (c:=0) ks (fun x _=>by simp [iV,wgt])
     have g2:=wgt_sl_le (f:=PE.vS) (c:=1+w) os (fun r hr=>by
       have h1:=wgt_sl_le (f:=PE.toV) (c:=w) r (fun e he'=>by rw [PE.toV_eq];exact (hwI r hr).2 e he')
       have h2:=(hwI r hr).1
       have h3:r.length*(w+1)≤1*(w+1):=Nat.mul_le_mul_right _ h2
       simp only [PE.vS]
       omega)
     have g3:=wgt_sl_le (f:=PE.toV) (c:=w) ws (fun e he'=>by rw [PE.toV_eq];exact hw2 e he')
     have g4:=wgt_sl_le (f:=PE.sv) (c:=w) rs (fun e he'=>by rw [PE.wgt_eqs];exact ho2 e he')
     have g5:=wgt_sl_le (f:=PE.toV) (c:=w) is (fun e he'=>by rw [PE.toV_eq];exact hwI1 e he')
     have g6:=wgt_sl_le (f:=sV) (c:=6) ns (fun q hq'=>by simpa [sV,wgt] using hsI q hq')
     have m1:os.length*(1+w+1)≤3*(1+w+1):=Nat.mul_le_mul_right _ (by omega)
     have m2:ws.length*(w+1)≤1*(w+1):=Nat.mul_le_mul_right _ (by omega)
     have m3:rs.length*(w+1)≤1*(w+1):=Nat.mul_le_mul_right _ (by omega)
     have m4:is.length*(w+1)≤2*(w+1):=Nat.mul_le_mul_right _ (by omega)
     omega
end Go.Proofs.Ytolhegocbkckdaa
