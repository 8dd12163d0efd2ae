/-
 l20Plan: a draft. Own work; no condition.
-/
import Derived.Test.YtolhegocbkckdaaGreatMg27
namespace Go.Proofs.YtolhegocbkckdaaGreat
open Go
set_option linter.unusedSimpArgs false
set_option linter.unusedVariables false
set_option maxHeartbeats 4000000 in
theorem lU {b:V} (hb:Bytes b) {ts:List Tab} (h1:0<ts.length∧ts.length≤3) (hts:∀ t∈ts,t.small) {env:List (List Int)} {N:Nat} (hE:env.length≤N∧N+1≤1000∧∀ r∈env,r.length≤1000) {types:List Int} {deep:Int} {w:Nat} (hty:types.length≤2)
   (he:∀ (env':List (List Int)) (ty:Int),env'.length≤N+1→(∀ r∈env',r.length≤1000)→PE.D Tryz.prog 102 b [wW ts,bf env',.int .i64 ty,.int .i64 deep] (fun e=>qV e.v≤w)) :
   PL.D Tryz.prog 69 b [wW ts,bf env,.sl 0 (types.map iV),.int .i64 deep] (fun p=>qV p.v≤64+8*w∧(0<p.tables.length∧0<p.on.length)∧p.items.length=types.length∧p.names.length=types.length):=by
 intro s H l i h hi hh
 replace hh:Hold s s.next (.cell l (vw b i h)::H):=hh
 have hcw:(⟨ts⟩:jy).wt≤1048576:=Nat.le_trans (jy.oq h1.2 hts) (by omega)
 refine zi.jX Tryz.func69 rfl (by kernel_rfl) ?_
 repeat' first|(refine qW ?_;first|(refine zq.gZ hh rfl rfl ?_;intro s n hh))|(refine qj ?_;refine zq.kR zx hh rfl rfl ?_;intro s n hh)|(refine zU ?_;first|(refine zq.zN zx 0 hh rfl rfl rfl rfl rfl rfl rfl rfl rfl ?_;intro s hh))|(refine zy 38 ?_;first|(refine zq.qc 1 rfl rfl vE hh rfl rfl ?_ (zP hb (by omega)) ?_;(focus (first | assumption | omega)) ;intro s x i h hq hi hh ;try dsimp only))|(refine zy 68 ?_;first|(refine zq.qc 2 rfl rfl wU hh rfl rfl ?_ (qg hb (by omega)) ?_;(focus (first | assumption | omega)) ;intro s x i h hq hi hh ;try dsimp only))|(refine zf ?_;first|(refine zq.nil ?_)|(refine' zq.ans (v := .agg _) (zk.jV zx rfl rfl rfl rfl ?_) ?_;rotate_left 1;(focus ((repeat' first|(exact Fills.nil)|(refine' Fills.cons rfl rfl rfl rfl ?_));done)))|(refine zq.ev zx rfl ?_)|(refine xk ?_;first|(refine zq.ans (zk.add rfl rfl ?_) ?_;(focus (constructor <;> omega)))))|(refine zH ?_;first|(refine WL.seq ?_)|(refine WL.region (by kernel_rfl) ?_)|(refine WL.block ?_))|(refine zw ?_)
 rename_i nb _ _ nr _ _ D _ _ _ _ _ _ _ _ _
 obtain ⟨X,rfl⟩:∃ X,X=x:=⟨x,rfl⟩
 obtain ⟨m,rfl⟩:∃ m,m=n:=⟨n,rfl⟩
 replace hh:=hh.vR.vR
 refine WL.yw (fun y:((List Int × Nat × Nat) × (List (List PE) × Nat × Nat)) × Int × Int=>(1+X - y.1.1.1.length).toNat)
   (fun y=>[(0,.ptr l 0),(2,bf env),(3,.sl 0 (types.map iV)),(4,.int .i64 deep),(6,.ptr nb 0),(10,.ptr nr 0),(11,.ptr m 0),(12,.int .i64 (1+X)),(13,.int .i64 (y.1.1.1.length:Int))])
   (fun y => .own (.qJ (.is y.1.1.2.1) y.1.1.2.2 0 y.1.1.1.length) (.sl 0 (y.1.1.1.map iV)) :: .own (.qJ (.is y.1.2.2.1) y.1.2.2.2 0 y.1.2.1.length) (.sl 0 (y.1.2.1.map PE.vS)) :: .cell l (vw b y.2.1 y.2.2) ::
     .cell m [.qJ (.is y.1.1.2.1) y.1.1.2.2 0 y.1.1.1.length,.qJ (.is y.1.2.2.1) y.1.2.2.2 0 y.1.2.1.length,.qJ (.is 0) 0 0 0,.qJ (.is 0) 0 0 0,.qJ (.is 0) 0 0 0,.qJ (.is 0) 0 0 0,.bool D,.int .i64 (-1)] ::
     .cell nr [.zl,.zl,.zl,.zl,.zl,.zl,.bool false,.int .i64 0] :: .cell nb [.sl 0 (ts.map Tab.zF)]::H)
   (fun y=>(((y.1.1.1.length:Int)≤1+X∧y.1.2.1.length=y.1.1.1.length)∧∀ r∈y.1.2.1,r.length≤1∧∀ e∈r,qV e.v≤w)∧0≤y.2.1) ((([],0,0),([],0,0)),i,h) ⟨⟨⟨by simp;omega,rfl⟩,by simp⟩,hi⟩ ⟨rfl,rfl,rfl,rfl,rfl,rfl,rfl,rfl,rfl,trivial⟩ hh ?_ (fun y s hI hh=>?_)
 · dsimp only
   (repeat' first|(exact zK.nil)|(exact zK.refl _)|(refine' zK.p ?_ ?_;rotate_left 1;(focus (((repeat' first|(exact Pick.here)|(refine' Pick.there ?_));done)))))
 obtain ⟨⟨⟨ks,c0,l0⟩,⟨os,c1,l1⟩⟩,i,h⟩:=y
 obtain ⟨⟨⟨hI,ho⟩,XP⟩,hi⟩:=hI
 dsimp only at hI ho XP hi hh ⊢
 by_cases hlt:(ks.length:Int)<1+X
 · have Cx:∀ (x:Int) (t:S),VCalls Tryz.prog 62 [wW ts,.sl 0 (ks.map iV++[iV x])] t (fun v t'=>Own2 (.jY [ints (jU ⟨ts⟩ (ks++[x])).1,.bool (jU ⟨ts⟩ (ks++[x])).2]) v t'):=fun x t=>by
     have:=gJ ⟨ts⟩ (ks++[x]) hcw (by simp;omega) t
     simpa [ints,jy.zF] using this
   have hpl:∀ (R:List Int) (o:Bool),V.xV [ints R,.bool o]=true:=fun R o=>zG (wX R) rfl
   have hpc:V.plain (wW ts)=true:=zG (aj ts) rfl
   have hrow:∀ (x:Int),∀ r∈(jU ⟨ts⟩ (ks++[x])).1::env,r.length≤1000:=fun x r hr=>by
     rcases List.mem_cons.1 hr with rfl | hr
     · have := rU ⟨ts⟩ hts (ks ++ [x])
       simp only [List.length_append,List.length_cons,List.length_nil] at this
       omega
     · exact hE.2.2 r hr
   have hlen:∀ R:List Int,(R::env).length≤N+1:=fun R=>by simp only [List.length_cons];omega
   repeat' first|(refine zU ?_;first|(refine zq.zN zx 3 hh rfl rfl rfl rfl rfl rfl rfl rfl rfl ?_;intro s hh))|(refine kZ ?_;first|(refine zq.ans (zk.Zb zx rfl rfl rfl rfl rfl rfl rfl rfl ?_) ?_;(focus ((repeat' first|(exact jM.of rfl));done)))|(refine zq.ans (zk.BU zx rfl rfl rfl rfl rfl) ?_))|(refine ji ?_;first|(refine' zq.appW zx 1 rfl rfl rfl rfl rfl rfl rfl rfl rfl rfl hh ?_ ?_ ?_ (xU.of ?_ rfl) ?_;rotate_left 2 ;(focus (first|(intro x hx;obtain ⟨y,_,rfl⟩:=List.mem_map.1 hx;first | rfl | exact PE.qA _ | exact PE.xC _))) ;(focus ((repeat' first|(exact qw.nil)|(exact qm.qP rfl)|(refine' qw.cons ?_ ?_));done)) ;(focus ((repeat' first|(exact zS.of rfl));done)) ;(focus (first | omega |(simp ;omega))) ;intro s c n hh)|(refine' zq.appW zx 2 rfl rfl rfl rfl rfl rfl rfl rfl rfl rfl hh ?_ ?_ ?_ (xU.of ?_ rfl) ?_;rotate_left 2 ;(focus (first|(intro x hx;obtain ⟨y,_,rfl⟩:=List.mem_map.1 hx;first | rfl | exact PE.qA _ | exact PE.xC _))) ;(focus ((repeat' first|(exact qw.nil)|(exact qm.jS)|(refine' qw.cons ?_ ?_));done)) ;(focus ((repeat' first|(exact zS.of rfl));done)) ;(focus (first | omega |(simp ;omega))) ;intro s c n hh)|(refine' zq.appW zx 3 rfl rfl rfl rfl rfl rfl rfl rfl rfl rfl hh ?_ ?_ ?_ (xU.of ?_ rfl) ?_;rotate_left 2 ;(focus (first|(intro x hx;obtain ⟨y,_,rfl⟩:=List.mem_map.1 hx;first | rfl | exact PE.qA _ | exact PE.xC _))) ;(focus ((repeat' first|(exact qw.nil)|(refine' qm.op ?_;((repeat' first|(exact Pick.here));done))|(refine' qw.cons ?_ ?_));done)) ;(focus ((repeat' first|(exact zS.of rfl));done)) ;(focus (first | omega |(simp ;omega))) ;intro s c n hh)|(refine' zq.BK zx rfl rfl rfl rfl rfl rfl rfl rfl hh ?_ ?_ (xU.of ?_ rfl) ?_;rotate_left 2 ;(focus ((repeat' first|(exact qw.nil)|(exact qm.qP rfl)|(refine' qm.op ?_;((repeat' first|(exact Pick.here)|(refine' Pick.there ?_));done))|(refine' qw.cons ?_ ?_)|(refine' qm.agg ?_));done)) ;(focus ((repeat' first|(exact zS.of rfl));done)) ;(focus (first | omega |(simp <;> fail))) ;intro s c n hh))|(refine zy 38 ?_;first|(refine zq.qc 2 rfl rfl vE hh rfl rfl ?_ (zP hb (by omega)) ?_;(focus (first | assumption | omega)) ;intro s x i h hq hi hh ;try dsimp only))|(refine zy 68 ?_;first|(refine zq.qc 1 rfl rfl wU hh rfl rfl ?_ (qg hb (by omega)) ?_;(focus (first | assumption | omega)) ;intro s x i h hq hi hh ;try dsimp only))|(refine zy 102 ?_;first|(refine zq.jF 0 rfl rfl Jb hh (he _ _ (hlen _) (hrow _)) .nil rfl rfl ?_ ?_;(focus (first | assumption | omega)) ;intro s y i h hq hi hh ;try dsimp only [List.cons_append,List.nil_append] at hh))|(refine zf ?_;first|(refine zq.nil ?_)|(refine kG ?_;first|(refine zq.gT rfl rfl rfl ?_)|(refine zq.gF rfl rfl rfl ?_)|(refine zq.gC rfl rfl rfl (fun h=>?_) (fun h=>?_)))|(refine zq.ev zx rfl ?_)|(refine zo ?_;first|(refine zq.ans (zk.zM zx 3 hh rfl rfl rfl rfl) ?_)|(refine zq.ans (zk.zM zx 4 hh rfl rfl rfl rfl) ?_)|(refine zq.ans (zk.zM zx 5 hh rfl rfl rfl rfl) ?_))|(refine xk ?_;first|(refine zq.ans (zk.add rfl rfl ?_) ?_;(focus (constructor <;> omega))))|(refine dw ?_;first|(refine zq.ans (zk.ze rfl rfl rfl Vt (VCalls.QM hh (.cons (.pl hpc) (.cons (.own (.head _)) .nil)) (hpl _ _) (Cx _))) ?_))|(refine zy 64 ?_;first|(refine zq.ans (zk.ze rfl rfl rfl (Y3) (ow _ _ ?_ _)) ?_;(focus (omega)))))|(refine zH ?_;first|(refine WL.seq ?_)|(refine WL.region (by kernel_rfl) ?_)|(refine WL.drawn (id:=6) [0,1,2,3,4,5,6,7,8,9,10] [6,8,10] [[],[0],[],[],[3],[3,4],[2,3,4,5],[2,3,4,5,6],[0,1,2,3,4,5,6,7],[0,1,2,3,4,5,6,7,8],[0,1,2,3,4,5,6,7,8,9]] (by kernel_rfl) (by kernel_rfl) ?_)|(refine WL.drawn (id:=10) [0,1,2,3,4,6,5,7,8,9,10] [5,7,9,10] [[],[],[],[],[],[3,4],[],[1,2,3,4,5,6],[1,2,3,4,5,6,7],[0,1,2,3,4,5,6,7,8],[0,1,2,3,4,5,6,7,8,9]] (by kernel_rfl) (by kernel_rfl) ?_)|(refine WL.block ?_)|(refine WL.skip ?_)|(refine zu ?_;first|(refine WL.qQ rfl ?_)|(refine WL.zJ rfl ?_ ?_;(focus (first|(exact decide_eq_true (by assumption)))))|(refine WL.cond rfl (fun h=>?_) (fun h=>?_))))|(refine vN ?_;first|(refine zA.nil ?_)|(refine zA.fl rfl rfl (.ev zx rfl) ?_)|(refine zA.fl rfl rfl (zk.fD zx rfl rfl rfl rfl rfl rfl rfl rfl rfl) ?_)|(refine qo rfl ?_;first|(refine zA.fl rfl rfl (zk.zM zx 3 hh rfl rfl rfl rfl) ?_)|(refine zA.fl rfl rfl (zk.zM zx 5 hh rfl rfl rfl rfl) ?_))|(refine uM rfl ?_;first|(refine zA.fl rfl rfl (zk.z8 zx rfl rfl rfl) ?_))|(refine zA.iY rfl rfl rfl ?_))|(refine zw ?_)|(refine zQ ?_)|(refine And.intro ?_ ?_)|(exact xR.nil)|(refine xR.cons ?_ ?_)|(refine jG.fl rfl rfl (.ev zx rfl))|(refine jG.fl rfl rfl (zk.zM zx 3 hh rfl rfl rfl rfl))|(refine jG.fl rfl rfl (zk.zM zx 5 hh rfl rfl rfl rfl))
   · skip
     all_goals
       try simp only [PE.uH,List.length_append,List.length_map,List.length_cons,List.length_nil,Nat.zero_add,PE.vS] at hh
       refine' kW.of ((((ks++[_],_,_),(os++[[y.1]],_,_)),_,_)) ?_ hh ?_ ?_ ?_
       rotate_left 8
       · dsimp only;(try simp only [List.map_append,List.map_cons,List.map_nil,PE.vS,List.length_append,List.length_map,List.length_cons,List.length_nil,Nat.zero_add]);(repeat' first|(exact zK.nil)|(exact zK.refl _)|(refine' zK.p ?_ ?_;rotate_left 1;(focus (((repeat' first|(exact Pick.here)|(refine' Pick.there ?_));done)))));done
       · dsimp only;refine ⟨⟨⟨by simp;omega,by simp;omega⟩,fun r hr=>?_⟩,by assumption⟩;rcases List.mem_append.1 hr with hr | hr;exact XP r hr;rw [List.mem_singleton] at hr;subst hr;simp;try assumption
       · dsimp only;first | omega |(simp;omega)|(simp_all;omega)
       · repeat' first | exact qz.nil |(refine qz.mk rfl ?_ ?_) | rfl |(simp;done)|(simp;omega)
   all_goals
     first
       | skip
         all_goals
           try simp only [PE.uH,List.length_append,List.length_map,List.length_cons,List.length_nil,Nat.zero_add,PE.vS] at hh
           refine' kW.of ((((ks++[_],_,_),(os++[[]],_,_)),_,_)) ?_ hh ?_ ?_ ?_
           rotate_left 8
           · dsimp only;(try simp only [List.map_append,List.map_cons,List.map_nil,PE.vS,List.length_append,List.length_map,List.length_cons,List.length_nil,Nat.zero_add]);(repeat' first|(exact zK.nil)|(exact zK.refl _)|(refine' zK.p ?_ ?_;rotate_left 1;(focus (((repeat' first|(exact Pick.here)|(refine' Pick.there ?_));done)))));done
           · dsimp only;refine ⟨⟨⟨by simp;omega,by simp;omega⟩,fun r hr=>?_⟩,by assumption⟩;rcases List.mem_append.1 hr with hr | hr;exact XP r hr;rw [List.mem_singleton] at hr;subst hr;simp;try assumption
           · dsimp only;first | omega |(simp;omega)|(simp_all;omega)
           · repeat' first | exact qz.nil |(refine qz.mk rfl ?_ ?_) | rfl |(simp;done)|(simp;omega)
 have Cx:∀ (t:S),VCalls Tryz.prog 62 [wW ts,.sl 0 (ks.map iV)] t (fun v t'=>Own2 (.jY [ints (jU ⟨ts⟩ ks).1,.bool (jU ⟨ts⟩ ks).2]) v t'):=fun t=>by
   have:=gJ ⟨ts⟩ ks hcw (by omega) t
   simpa [ints,jy.zF] using this
 have hpl:∀ (R:List Int) (o:Bool),V.xV [ints R,.bool o]=true:=fun R o=>zG (wX R) rfl
 have hpc:V.plain (wW ts)=true:=zG (aj ts) rfl
 have hrow:∀ r∈(jU ⟨ts⟩ ks).1::env,r.length≤1000:=fun r hr=>by
   rcases List.mem_cons.1 hr with rfl | hr
   · have := rU ⟨ts⟩ hts ks
     omega
   · exact hE.2.2 r hr
 have hlen:((jU ⟨ts⟩ ks).1::env).length≤N+1:=by simp only [List.length_cons];omega
 repeat' first|(refine zf ?_;first|(refine zq.nil ?_)|(refine zq.ev zx rfl ?_)|(refine zo ?_;first|(refine zq.ans (zk.zM zx 3 hh rfl rfl rfl rfl) ?_)|(refine zq.ans (zk.zM zx 5 hh rfl rfl rfl rfl) ?_))|(refine dw ?_;first|(refine zq.ans (zk.ze rfl rfl rfl Vt (VCalls.QM hh (.cons (.pl hpc) (.cons (.own (.head _)) .nil)) (hpl _ _) (fun t=>Cx t))) ?_))|(refine zy 64 ?_;first|(refine zq.ans (zk.ze rfl rfl rfl (Y3) (ow _ _ ?_ _)) ?_;(focus (omega)))))|(refine zH ?_;first|(refine WL.seq ?_)|(refine WL.region (by kernel_rfl) ?_)|(refine WL.block ?_)|(refine WL.exit ?_)|(refine zu ?_;first|(refine WL.zY rfl ?_ ?_;(focus (first|(exact decide_eq_false (by assumption)))))))|(refine zw ?_)|(refine zC ?_)|(refine zV ?_)|(refine ko ?_)
 generalize (jU ⟨ts⟩ ks).1=R at hrow hlen ⊢
 have hee:=fun ty=>he (R::env) ty hlen hrow
 replace hh:=hh.vR.vR
 refine WL.yw (fun y:((List PE × Nat × Nat) × (List (List UInt8) × Nat × Nat)) × Int × Int=>types.length - y.1.1.1.length)
   (fun y=>[(0,.ptr l 0),(3,.sl 0 (types.map iV)),(4,.int .i64 deep),(6,.ptr nb 0),(10,.ptr nr 0),(11,.ptr m 0),(19,bf (R::env)),(20,.int .i64 (y.1.1.1.length:Int))])
   (fun y => .own (.qJ (.is y.1.1.2.1) y.1.1.2.2 0 y.1.1.1.length) (.sl 0 (y.1.1.1.map PE.zF)) :: .own (.qJ (.is y.1.2.2.1) y.1.2.2.2 0 y.1.2.1.length) (.sl 0 (y.1.2.1.map sV)) :: .cell l (vw b y.2.1 y.2.2) ::
     .cell m [.qJ (.is c0) l0 0 ks.length,.qJ (.is c1) l1 0 os.length,.qJ (.is 0) 0 0 0,.qJ (.is 0) 0 0 0,.qJ (.is y.1.1.2.1) y.1.1.2.2 0 y.1.1.1.length,.qJ (.is y.1.2.2.1) y.1.2.2.2 0 y.1.2.1.length,.bool D,.int .i64 (-1)] ::
     .cell nr [.zl,.zl,.zl,.zl,.zl,.zl,.bool false,.int .i64 0] :: .cell nb [.sl 0 (ts.map Tab.zF)] :: .own (.qJ (.is c0) l0 0 ks.length) (.sl 0 (ks.map iV)) :: .own (.qJ (.is c1) l1 0 os.length) (.sl 0 (os.map PE.vS))::H)
   (fun y=>((y.1.1.1.length≤types.length∧y.1.2.1.length=y.1.1.1.length)∧(∀ e∈y.1.1.1,qV e.v≤w)∧∀ q∈y.1.2.1,q.length≤6)∧0≤y.2.1) ((([],0,0),([],0,0)),i,h) ⟨⟨⟨by simp,rfl⟩,by simp,by simp⟩,hi⟩ ⟨rfl,rfl,rfl,rfl,rfl,rfl,rfl,rfl,trivial⟩ hh ?_ (fun y s hI hh=>?_)
 · dsimp only
   (repeat' first|(exact zK.nil)|(exact zK.refl _)|(refine' zK.p ?_ ?_;rotate_left 1;(focus (((repeat' first|(exact Pick.here)|(refine' Pick.there ?_));done)))))
 obtain ⟨⟨⟨is,c4,l4⟩,⟨ns,c5,l5⟩⟩,i,h⟩:=y
 obtain ⟨⟨⟨hI1,hn1⟩,VK,hsI⟩,hi⟩:=hI
 dsimp only at hI1 hn1 VK hsI hi hh ⊢
 rcases Nat.lt_or_ge is.length types.length with hlt1 | RV
 · have hga : (types.map iV)[is.length]? = some (.int .i64 types[is.length]) := by simp [hlt1, iV]
   generalize types[is.length]=ty at hga
   repeat' first|(refine zU ?_;first|(refine zq.zN zx 3 hh rfl rfl rfl rfl rfl rfl rfl rfl rfl ?_;intro s hh))|(refine ji ?_;first|(refine' zq.appW zx 2 rfl rfl rfl rfl rfl rfl rfl rfl rfl rfl hh ?_ ?_ ?_ (xU.of ?_ rfl) ?_;rotate_left 2 ;(focus (first|(intro x hx;obtain ⟨y,_,rfl⟩:=List.mem_map.1 hx;first | rfl | exact PE.qA _ | exact PE.xC _))) ;(focus ((repeat' first|(exact qw.nil)|(exact qm.qP rfl)|(refine' qw.cons ?_ ?_));done)) ;(focus ((repeat' first|(exact zS.of rfl));done)) ;(focus (first | omega |(simp ;omega))) ;intro s c n hh)|(refine' zq.appW zx 3 rfl rfl rfl rfl rfl rfl rfl rfl rfl rfl hh ?_ ?_ ?_ (xU.of ?_ rfl) ?_;rotate_left 2 ;(focus (first|(intro x hx;obtain ⟨y,_,rfl⟩:=List.mem_map.1 hx;first | rfl | exact PE.qA _ | exact PE.xC _))) ;(focus ((repeat' first|(exact qw.nil)|(exact qm.qP rfl)|(refine' qm.op ?_;((repeat' first|(exact Pick.here)|(refine' Pick.there ?_));done))|(refine' qw.cons ?_ ?_)|(refine' qm.agg ?_));done)) ;(focus ((repeat' first|(exact zS.of rfl));done)) ;(focus (first | omega |(simp ;omega))) ;intro s c n hh))|(refine zy 76 ?_;first|(refine zq.qc 1 rfl rfl VZ hh rfl rfl ?_ (vC hb rfl (by simp)) ?_;(focus (first | assumption | omega)) ;intro s x i h hq hi hh ;try dsimp only))|(refine zy 102 ?_;first|(refine zq.jF 2 rfl rfl Jb hh (hee _) .nil rfl rfl ?_ ?_;(focus (first | assumption | omega)) ;intro s y i h hq hi hh ;try dsimp only [List.cons_append,List.nil_append] at hh))|(refine zf ?_;first|(refine zq.nil ?_)|(refine zq.ev zx rfl ?_)|(refine qx ?_;first|(refine zq.ans (zk.z8 zx rfl rfl rfl) ?_))|(refine xk ?_;first|(refine zq.ans (zk.add rfl rfl ?_) ?_;(focus (constructor <;> omega)))))|(refine zH ?_;first|(refine WL.seq ?_)|(refine WL.region (by kernel_rfl) ?_)|(refine WL.drawn (id:=17) [0,1,2,3,4,5,6,7,8,9,10,11,12,13,14] [10,12,14] [[],[0],[],[],[],[],[],[5,6],[5,6,7],[],[2,3,4,5,6,7,8,9],[2,3,4,5,6,7,8,9,10],[0,1,2,3,4,5,6,7,8,9,10,11],[0,1,2,3,4,5,6,7,8,9,10,11,12],[0,1,2,3,4,5,6,7,8,9,10,11,12,13]] (by kernel_rfl) (by kernel_rfl) ?_)|(refine WL.drawn (id:=18) [0,1,2,3,4,5,6,7,8] [4,6,8] [[],[0],[],[],[2,3],[2,3,4],[0,1,2,3,4,5],[0,1,2,3,4,5,6],[0,1,2,3,4,5,6,7]] (by kernel_rfl) (by kernel_rfl) ?_)|(refine WL.block ?_)|(refine WL.skip ?_)|(refine zu ?_;first|(refine WL.zJ rfl ?_ ?_;(focus (first|(simp <;> omega))))))|(refine vN ?_;first|(refine zA.nil ?_)|(refine zA.fl rfl rfl (.ev zx rfl) ?_)|(refine zA.fl rfl rfl (zk.fD zx rfl rfl rfl rfl rfl rfl rfl rfl rfl) ?_)|(refine qo rfl ?_;first|(refine zA.fl rfl rfl (zk.zM zx 3 hh rfl rfl rfl rfl) ?_)|(refine zA.fl rfl rfl (zk.zM zx 5 hh rfl rfl rfl rfl) ?_))|(refine kQ rfl ?_;first|(refine zA.fl rfl rfl (zk.idx zx rfl rfl rfl rfl rfl hga rfl rfl) ?_))|(refine zA.iY rfl rfl rfl ?_))|(refine zw ?_)|(refine zQ ?_)|(refine And.intro ?_ ?_)|(exact xR.nil)|(refine xR.cons ?_ ?_)|(refine jG.fl rfl rfl (.ev zx rfl))|(refine jG.fl rfl rfl (zk.zM zx 3 hh rfl rfl rfl rfl))|(refine jG.fl rfl rfl (zk.zM zx 5 hh rfl rfl rfl rfl))
   all_goals
     try simp only [PE.uH,List.length_append,List.length_map,List.length_cons,List.length_nil,Nat.zero_add] at hh
     refine' kW.of ((((is++[y.1],_,_),(ns++[_],_,_)),_,_)) ?_ hh ?_ ?_ ?_
     rotate_left 8
     · dsimp only;(try simp only [List.map_append,List.map_cons,List.map_nil,PE.vS,List.length_append,List.length_map,List.length_cons,List.length_nil,Nat.zero_add]);(repeat' first|(exact zK.nil)|(exact zK.refl _)|(refine' zK.p ?_ ?_;rotate_left 1;(focus (((repeat' first|(exact Pick.here)|(refine' Pick.there ?_));done)))));done
     · dsimp only;refine ⟨⟨⟨by simp;omega,by simp;omega⟩,fun e he'=>?_,fun q hq'=>?_⟩,by assumption⟩;rcases List.mem_append.1 he' with he' | he';exact VK e he';rw [List.mem_singleton] at he';subst he';assumption;rcases List.mem_append.1 hq' with hq' | hq';exact hsI q hq';rw [List.mem_singleton] at hq';subst hq';exact Nat.le_trans (vF (n:=3) (by assumption) rfl) (by omega)
     · dsimp only;first | omega |(simp;omega)|(simp_all;omega)
     · repeat' first | exact qz.nil |(refine qz.mk rfl ?_ ?_) | rfl |(simp;done)|(simp;omega)
 have hX:X≤1:=by omega
 repeat' first|(refine zy 68 ?_;first|(refine zq.qc 2 rfl rfl wU hh rfl rfl ?_ (qg hb (by omega)) ?_;(focus (first | assumption | omega)) ;intro s x i h hq hi hh ;try dsimp only))|(refine zf ?_;first|(refine zq.nil ?_)|(refine zq.ev zx rfl ?_)|(refine qx ?_;first|(refine zq.ans (zk.z8 zx rfl rfl rfl) ?_)))|(refine zH ?_;first|(refine WL.seq ?_)|(refine WL.region (by kernel_rfl) ?_)|(refine WL.exit ?_)|(refine zu ?_;first|(refine WL.zY rfl ?_ ?_;(focus (first|(simp <;> omega))))))|(refine zw ?_)|(refine zC ?_)|(refine zV ?_)|(refine ko ?_)
 refine WL.YP (fun _:(List PE × Nat × Nat) × Int × Int=>[(0,.ptr l 0),(4,.int .i64 deep),(6,.ptr nb 0),(10,.ptr nr 0),(11,.ptr m 0),(19,bf (R::env))]) (fun y => .own (.qJ (.is y.1.2.1) y.1.2.2 0 y.1.1.length) (.sl 0 (y.1.1.map PE.zF)) :: .cell l (vw b y.2.1 y.2.2) :: .cell m [.qJ (.is c0) l0 0 ks.length,.qJ (.is c1) l1 0 os.length,.qJ (.is y.1.2.1) y.1.2.2 0 y.1.1.length,.qJ (.is 0) 0 0 0,.qJ (.is c4) l4 0 is.length,.qJ (.is c5) l5 0 ns.length,.bool D,.int .i64 (-1)] :: .cell nr [.zl,.zl,.zl,.zl,.zl,.zl,.bool false,.int .i64 0] :: .cell nb [.sl 0 (ts.map Tab.zF)] :: .own (.qJ (.is c4) l4 0 is.length) (.sl 0 (is.map PE.zF)) :: .own (.qJ (.is c5) l5 0 ns.length) (.sl 0 (ns.map sV)) :: .own (.qJ (.is c0) l0 0 ks.length) (.sl 0 (ks.map iV)) :: .own (.qJ (.is c1) l1 0 os.length) (.sl 0 (os.map PE.vS))::H)
   (fun y=>(y.1.1.length≤1∧∀ e∈y.1.1,qV e.v≤w)∧0≤y.2.1) ?_ (fun y s hI hh=>?_)
 · skip
   repeat' first|(refine zU ?_;first|(refine zq.zN zx 4 hh rfl rfl rfl rfl rfl rfl rfl rfl rfl ?_;intro s hh))|(refine kZ ?_;first|(refine' zq.Z7 (d:=117) zx rfl rfl rfl rfl rfl rfl rfl rfl hh ?_ ?_ ?_;rotate_left 2 ;(focus ((repeat' first|(exact qw.nil)|(exact qm.qP rfl)|(refine' qm.op ?_;((repeat' first|(exact Pick.here)|(refine' Pick.there ?_));done))|(refine' qw.cons ?_ ?_)|(refine' qm.agg ?_));done)) ;(focus ((repeat' first|(exact jM.of rfl));done)) ;intro s n hh))|(refine zy 102 ?_;first|(refine zq.jF 0 rfl rfl Jb hh (hee _) .nil rfl rfl ?_ ?_;(focus (first | assumption | omega)) ;intro s y i h hq hi hh ;try dsimp only [List.cons_append,List.nil_append] at hh))|(refine zf ?_;first|(refine zq.nil ?_)|(refine zq.ev zx rfl ?_)|(refine zo ?_;first|(refine zq.ans (zk.zM zx 5 hh rfl rfl rfl rfl) ?_)))|(refine zH ?_;first|(refine WL.region (by kernel_rfl) ?_)|(refine WL.skip ?_)|(refine zu ?_;first|(refine WL.cond rfl (fun h=>?_) (fun h=>?_))))
   · skip
     all_goals
       try simp only [PE.uH,List.length_append,List.length_map,List.length_cons,List.length_nil,Nat.zero_add] at hh
       refine' bE.of ((([y.1],_,_),_,_)) ?_ hh ?_ ?_
       rotate_left 5
       · try dsimp only
         (try simp only [List.map_append,List.map_cons,List.map_nil,PE.vS,List.length_append,List.length_map,List.length_cons,List.length_nil,Nat.zero_add]);(repeat' first|(exact zK.nil)|(exact zK.refl _)|(refine' zK.p ?_ ?_;rotate_left 1;(focus (((repeat' first|(exact Pick.here)|(refine' Pick.there ?_));done)))));done
       · try dsimp only
         exact ⟨⟨by simp,fun e he'=>by rw [List.mem_singleton] at he';subst he';assumption⟩,by assumption⟩
       · repeat' first | exact qz.nil |(refine qz.mk rfl ?_ ?_) | rfl |(simp;done)|(simp;omega)
   replace hh:=hh.vR
   all_goals
     try simp only [PE.uH,List.length_append,List.length_map,List.length_cons,List.length_nil,Nat.zero_add] at hh
     refine' bE.of ((([],0,0),_,_)) ?_ hh ?_ ?_
     rotate_left 3
     · try dsimp only
       (try simp only [List.map_append,List.map_cons,List.map_nil,PE.vS,List.length_append,List.length_map,List.length_cons,List.length_nil,Nat.zero_add]);(repeat' first|(exact zK.nil)|(exact zK.refl _)|(refine' zK.p ?_ ?_;rotate_left 1;(focus (((repeat' first|(exact Pick.here)|(refine' Pick.there ?_));done)))));done
     · try dsimp only
       exact ⟨⟨by simp,by simp⟩,by assumption⟩
     · repeat' first | exact qz.nil |(refine qz.mk rfl ?_ ?_) | rfl |(simp;done)|(simp;omega)
 obtain ⟨⟨ws,c2,l2⟩,i,h⟩:=y
 obtain ⟨⟨hw1,hw2⟩,hi⟩:=hI
 dsimp only at hw1 hw2 hi hh ⊢
 repeat' first|(refine zy 68 ?_;first|(refine zq.qc 1 rfl rfl wU hh rfl rfl ?_ (qg hb (by omega)) ?_;(focus (first | assumption | omega)) ;intro s x i h hq hi hh ;try dsimp only))|(refine zf ?_;first|(refine zq.nil ?_)|(refine zq.ev zx rfl ?_))|(refine zH ?_;first|(refine WL.seq ?_)|(refine WL.region (by kernel_rfl) ?_))|(refine zw ?_)
 refine WL.YP (fun _:(List (PE × Bool) × Nat × Nat) × Int × Int=>[(0,.ptr l 0),(4,.int .i64 deep),(6,.ptr nb 0),(10,.ptr nr 0),(11,.ptr m 0),(19,bf (R::env))]) (fun y => .own (.qJ (.is y.1.2.1) y.1.2.2 0 y.1.1.length) (.sl 0 (y.1.1.map PE.sv)) :: .cell l (vw b y.2.1 y.2.2) :: .cell m [.qJ (.is c0) l0 0 ks.length,.qJ (.is c1) l1 0 os.length,.qJ (.is c2) l2 0 ws.length,.qJ (.is y.1.2.1) y.1.2.2 0 y.1.1.length,.qJ (.is c4) l4 0 is.length,.qJ (.is c5) l5 0 ns.length,.bool D,.int .i64 (-1)] :: .cell nr [.zl,.zl,.zl,.zl,.zl,.zl,.bool false,.int .i64 0] :: .cell nb [.sl 0 (ts.map Tab.zF)] :: .own (.qJ (.is c2) l2 0 ws.length) (.sl 0 (ws.map PE.zF)) :: .own (.qJ (.is c4) l4 0 is.length) (.sl 0 (is.map PE.zF)) :: .own (.qJ (.is c5) l5 0 ns.length) (.sl 0 (ns.map sV)) :: .own (.qJ (.is c0) l0 0 ks.length) (.sl 0 (ks.map iV)) :: .own (.qJ (.is c1) l1 0 os.length) (.sl 0 (os.map PE.vS))::H)
   (fun y=>(y.1.1.length≤1∧∀ e∈y.1.1,qV e.1.v≤w)∧0≤y.2.1) ?_ (fun y s hI hh=>?_)
 · skip
   repeat' first|(refine zU ?_;first|(refine zq.zN zx 3 hh rfl rfl rfl rfl rfl rfl rfl rfl rfl ?_;intro s hh))|(refine ji ?_;first|(refine' zq.BK zx rfl rfl rfl rfl rfl rfl rfl rfl hh ?_ ?_ (xU.of ?_ rfl) ?_;rotate_left 2 ;(focus ((repeat' first|(exact qw.nil)|(exact qm.qP rfl)|(refine' qm.op ?_;((repeat' first|(exact Pick.here)|(refine' Pick.there ?_));done))|(refine' qw.cons ?_ ?_)|(refine' qm.agg ?_));done)) ;(focus ((repeat' first|(exact zS.of rfl));done)) ;(focus (first | omega |(simp <;> fail))) ;intro s c n hh))|(refine zy 38 ?_;first|(refine zq.qc 0 rfl rfl vE hh rfl rfl ?_ (zP hb (by omega)) ?_;(focus (first | assumption | omega)) ;intro s x i h hq hi hh ;try dsimp only))|(refine zy 68 ?_;first|(refine zq.qc 2 rfl rfl wU hh rfl rfl ?_ (qg hb (by omega)) ?_;(focus (first | assumption | omega)) ;intro s x i h hq hi hh ;try dsimp only))|(refine zy 102 ?_;first|(refine zq.jF 0 rfl rfl Jb hh (hee _) .nil rfl rfl ?_ ?_;(focus (first | assumption | omega)) ;intro s y i h hq hi hh ;try dsimp only [List.cons_append,List.nil_append] at hh))|(refine zf ?_;first|(refine zq.nil ?_))|(refine zH ?_;first|(refine WL.drawn (id:=22) [0,1,2,3,4,5,8,10,6,7,9,11,12,13,14,15,16] [6,9,11,14,16] [[],[0],[],[],[],[],[5],[5,6],[],[2,3,4,5,6,7,8],[],[2,3,4,5,6,7,8,9,10],[2,3,4,5,6,7,8,9,10,11],[2,3,4,5,6,7,8,9,10,11,12],[0,1,2,3,4,5,6,7,8,9,10,11,12,13],[0,1,2,3,4,5,6,7,8,9,10,11,12,13,14],[0,1,2,3,4,5,6,7,8,9,10,11,12,13,14,15]] (by kernel_rfl) (by kernel_rfl) ?_)|(refine WL.skip ?_)|(refine zu ?_;first|(refine WL.cond rfl (fun h=>?_) (fun h=>?_))))|(refine vN ?_;first|(refine zA.nil ?_)|(refine' zA.fl (v := .agg _) rfl rfl (zk.jV zx rfl rfl rfl rfl ?_) ?_;rotate_left 1;(focus ((repeat' first|(exact Fills.nil)|(refine' Fills.cons rfl rfl rfl rfl ?_));done)))|(refine zA.fl rfl rfl (.ev zx rfl) ?_)|(refine zA.fl rfl rfl (zk.fD zx rfl rfl rfl rfl rfl rfl rfl rfl rfl) ?_)|(refine qo rfl ?_;first|(refine zA.fl rfl rfl (zk.zM zx 2 hh rfl rfl rfl rfl) ?_)|(refine zA.fl rfl rfl (zk.zM zx 4 hh rfl rfl rfl rfl) ?_))|(refine yj rfl ?_;first|(refine zA.fl rfl rfl (zk.add rfl rfl ?_) ?_;(focus (constructor <;> omega))))|(refine zA.iY rfl rfl rfl ?_))|(refine And.intro ?_ ?_)|(exact xR.nil)|(refine xR.cons ?_ ?_)|(refine jG.fl rfl rfl (.ev zx rfl))|(refine jG.fl rfl rfl (zk.zM zx 2 hh rfl rfl rfl rfl))|(refine jG.fl rfl rfl (zk.zM zx 4 hh rfl rfl rfl rfl))
   · skip
     all_goals
       try simp only [PE.uH,List.length_append,List.length_map,List.length_cons,List.length_nil,Nat.zero_add] at hh
       refine' bE.of ((([(y.1,_)],_,_),_,_)) ?_ hh ?_ ?_
       rotate_left 6
       · try dsimp only
         (try simp only [List.map_append,List.map_cons,List.map_nil,PE.vS,List.length_append,List.length_map,List.length_cons,List.length_nil,Nat.zero_add]);(repeat' first|(exact zK.nil)|(exact zK.refl _)|(refine' zK.p ?_ ?_;rotate_left 1;(focus (((repeat' first|(exact Pick.here)|(refine' Pick.there ?_));done)))));done
       · try dsimp only
         exact ⟨⟨by simp,fun e he'=>by rw [List.mem_singleton] at he';subst he';assumption⟩,by assumption⟩
       · repeat' first | exact qz.nil |(refine qz.mk rfl ?_ ?_) | rfl |(simp;done)|(simp;omega)
   replace hh:=hh.vR
   all_goals
     try simp only [PE.uH,List.length_append,List.length_map,List.length_cons,List.length_nil,Nat.zero_add] at hh
     refine' bE.of ((([],0,0),_,_)) ?_ hh ?_ ?_
     rotate_left 3
     · try dsimp only
       (try simp only [List.map_append,List.map_cons,List.map_nil,PE.vS,List.length_append,List.length_map,List.length_cons,List.length_nil,Nat.zero_add]);(repeat' first|(exact zK.nil)|(exact zK.refl _)|(refine' zK.p ?_ ?_;rotate_left 1;(focus (((repeat' first|(exact Pick.here)|(refine' Pick.there ?_));done)))));done
     · try dsimp only
       exact ⟨⟨by simp,by simp⟩,by assumption⟩
     · repeat' first | exact qz.nil |(refine qz.mk rfl ?_ ?_) | rfl |(simp;done)|(simp;omega)
 obtain ⟨⟨rs,c3,l3⟩,i,h⟩:=y
 obtain ⟨⟨ho1,ho2⟩,hi⟩:=hI
 dsimp only at ho1 ho2 hi hh ⊢
 repeat' first|(refine zU ?_;first|(refine zq.zN zx 2 hh rfl rfl rfl rfl rfl rfl rfl rfl rfl ?_;intro s hh)|(refine zq.zN zx 3 hh rfl rfl rfl rfl rfl rfl rfl rfl rfl ?_;intro s hh))|(refine zy 38 ?_;first|(refine zq.qc 0 rfl rfl vE hh rfl rfl ?_ (zP hb (by omega)) ?_;(focus (first | assumption | omega)) ;intro s x i h hq hi hh ;try dsimp only))|(refine zy 68 ?_;first|(refine zq.qc 1 rfl rfl wU hh rfl rfl ?_ (qg hb (by omega)) ?_;(focus (first | assumption | omega)) ;intro s x i h hq hi hh ;try dsimp only))|(refine zf ?_;first|(refine zq.nil ?_)|(refine zq.ev zx rfl ?_)|(refine zo ?_;first|(refine zq.ans (zk.zM zx 2 hh rfl rfl rfl rfl) ?_)))|(refine zH ?_;first|(refine WL.seq ?_)|(refine WL.region (by kernel_rfl) ?_)|(refine WL.skip ?_)|(refine WL.ret ?_)|(refine zu ?_;first|(refine WL.cond rfl (fun h=>?_) (fun h=>?_))))|(refine zw ?_)|(refine' zh.r1 (r := .cell 10 33) (.inl rfl) ?_ ?_;rotate_left 1;(focus (first|(exact zn.xM 3 zx hh rfl rfl rfl rfl))))
 all_goals
   apply jl.fin (y:=(⟨ks,os,ws,rs,is,ns,D,_⟩,fun k=>match k with | 0=>(c0,l0) | 1=>(c1,l1) | 2=>(c2,l2) | 3=>(c3,l3) | 4=>(c4,l4) | _=>(c5,l5))) (hh:=hh)
   case hv=>rfl
   case hi=>assumption
   case hs =>
     dsimp only [PL.ob,List.cons_append,List.nil_append]
     (repeat' first|(exact zK.nil)|(exact zK.refl _)|(refine' zK.p ?_ ?_;rotate_left 1;(focus (((repeat' first|(exact Pick.here)|(refine' Pick.there ?_));done)))))
     (repeat' first|(exact zK.refl _)|(refine zK.drop ?_))
   case hp =>
     refine ⟨?_,⟨by dsimp only;omega,by dsimp only;omega⟩,by dsimp only;omega,by dsimp only;omega⟩
     dsimp only
     rw [PL.qC]
     dsimp only
     have g1:=kT (f:=iV) (c:=0) ks (fun x _=>by simp [iV,qV])
     have g2:=kT (f:=PE.vS) (c:=1+w) os (fun r hr=>by
       have h1:=kT (f:=PE.zF) (c:=w) r (fun e he'=>by rw [PE.qK];exact (XP r hr).2 e he')
       have h2:=(XP r hr).1
       have h3:r.length*(w+1)≤1*(w+1):=Nat.mul_le_mul_right _ h2
       simp only [PE.vS]
       omega)
     have g3:=kT (f:=PE.zF) (c:=w) ws (fun e he'=>by rw [PE.qK];exact hw2 e he')
     have g4:=kT (f:=PE.sv) (c:=w) rs (fun e he'=>by rw [PE.sW];exact ho2 e he')
     have g5:=kT (f:=PE.zF) (c:=w) is (fun e he'=>by rw [PE.qK];exact VK e he')
     have g6:=kT (f:=sV) (c:=6) ns (fun q hq'=>by simpa [sV,qV] using hsI q hq')
     have m1:os.length*(1+w+1)≤3*(1+w+1):=Nat.mul_le_mul_right _ (by omega)
     have m2:ws.length*(w+1)≤1*(w+1):=Nat.mul_le_mul_right _ (by omega)
     have m3:rs.length*(w+1)≤1*(w+1):=Nat.mul_le_mul_right _ (by omega)
     have m4:is.length*(w+1)≤2*(w+1):=Nat.mul_le_mul_right _ (by omega)
     omega
end Go.Proofs.YtolhegocbkckdaaGreat
