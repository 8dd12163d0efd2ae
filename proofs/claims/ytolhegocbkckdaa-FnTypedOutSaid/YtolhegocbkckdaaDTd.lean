/-
 Typed trees of plans drawn from a string of bytes: literals, rows, columns. Own work; no condition.
-/
import Derived.Test.YtolhegocbkckdaaMg39
import Derived.Test.YtolhegocbkckdaaMg20
namespace Go.Proofs.Ytolhegocbkckdaa
open Go
set_option linter.unusedSimpArgs false
set_option linter.unusedVariables false
theorem specl6Typed_t {b:V} (hb:Bytes b) (k:Int):Drw Try.prog 126 b [.int .i64 k] Val.toV (fun v=>v.text.length≤2):=by
 intro s H l i h hi hh
 refine LCalls.body0 Try.func126 rfl (by kernel_rfl) ?_
 repeat' first |(refine kAlloc ?_ ;refine LOps.allocH tT_ok hh rfl rfl ?_ ;intro s n hh) |(refine kStore ?_ ;first |(refine LOps.storeH tT_ok 1 hh rfl rfl rfl rfl rfl rfl rfl rfl rfl ?_ ;intro s hh) |(refine LOps.storeH tT_ok 2 hh rfl rfl rfl rfl rfl rfl rfl rfl rfl ?_ ;intro s hh)) |(refine kBsl ?_ ;refine' LOps.bslH tT_ok rfl rfl rfl rfl rfl rfl rfl rfl hh ?_ ?_ ?_ ;rotate_left 2 ;(focus ((repeat' first |(exact ConsL.pls rfl rfl));done)) ;(focus ((repeat' first |(exact ElsH.of rfl));done)) ;intro s n hh) |(refine kCallN 92 ?_ ;first |(refine LOps.drawH 1 rfl rfl ok92 hh rfl rfl ?_ (specl1Pick_d hb rfl (by simp)) ?_ ;(focus (first | assumption | omega)) ;intro s x i h hq hi hh ;try dsimp only)) |(refine kCallN 72 ?_ ;first |(refine LOps.drawH 0 rfl rfl ok72 hh rfl rfl ?_ (specl1Once_d hb (by omega)) ?_ ;(focus (first | assumption | omega)) ;intro s x i h hq hi hh ;try dsimp only) |(refine LOps.drawH 1 rfl rfl ok72 hh rfl rfl ?_ (specl1Once_d hb (by omega)) ?_ ;(focus (first | assumption | omega)) ;intro s x i h hq hi hh ;try dsimp only)) |(refine kCallN 87 ?_ ;first |(refine LOps.drawH 0 rfl rfl ok87 hh rfl rfl ?_ (specl1Whole_d hb) ?_ ;(focus (first | assumption | omega)) ;intro s x i h hq hi hh ;try dsimp only)) |(refine kOps ?_;first |(refine LOps.nil ?_) |(refine LOps.ev tT_ok rfl ?_) |(refine kCallN 145 ?_;first |(refine LOps.ans (AnsL.callP rfl rfl rfl (ok145) (specTextValue_v _ _)) ?_)) |(refine kCallN 146 ?_;first |(refine LOps.ans (AnsL.callP rfl rfl rfl (ok146) (specBoolValue_v _ _)) ?_)) |(refine kCallN 147 ?_;first |(refine LOps.ans (AnsL.callP rfl rfl rfl (ok147) (specIntValue_v _ _)) ?_))) |(refine kWL ?_;first |(refine WL.seq ?_) |(refine WL.region (by kernel_rfl) ?_) |(refine WL.block ?_) |(refine WL.skip ?_) |(refine WL.ret ?_) |(refine kCond ?_;first |(refine WL.cond rfl (fun h=>?_) (fun h=>?_)))) |(refine lthen_n ?_) |(refine lthen_r ?_) |(refine lblock_n ?_) |(refine lblock_r ?_) |(refine' LPost.r1 (r := .cell 4 25) (.inl rfl) ?_ ?_;rotate_left 1;(focus (first | exact Res1.cellH 0 tT_ok hh rfl rfl rfl rfl | exact Res1.cellH 1 tT_ok hh rfl rfl rfl rfl | exact Res1.cellH 2 tT_ok hh rfl rfl rfl rfl | exact Res1.cellH 3 tT_ok hh rfl rfl rfl rfl | exact Res1.cellH 4 tT_ok hh rfl rfl rfl rfl | exact Res1.cellH 5 tT_ok hh rfl rfl rfl rfl | exact Res1.cellH 6 tT_ok hh rfl rfl rfl rfl | exact Res1.cellH 7 tT_ok hh rfl rfl rfl rfl | exact Res1.cellHW 0 tT_ok hh rfl rfl rfl rfl | exact Res1.cellHW 1 tT_ok hh rfl rfl rfl rfl | exact Res1.cellHW 2 tT_ok hh rfl rfl rfl rfl | exact Res1.cellHW 3 tT_ok hh rfl rfl rfl rfl | exact Res1.cellHW 4 tT_ok hh rfl rfl rfl rfl | exact Res1.cellHW 5 tT_ok hh rfl rfl rfl rfl | exact Res1.cellHW 6 tT_ok hh rfl rfl rfl rfl | exact Res1.cellHW 7 tT_ok hh rfl rfl rfl rfl)))
 all_goals
   apply Drw.fin (x:=⟨_,_,_⟩) (hh:=hh)
   case hv=>first | exact Val.agg_eq _ _ _ | rfl
   case hs=>(first |(refine Sel.cons 0 rfl rfl ?_) |(refine Sel.cons 1 rfl rfl ?_) |(refine Sel.cons 2 rfl rfl ?_) |(refine Sel.cons 3 rfl rfl ?_) |(refine Sel.cons 4 rfl rfl ?_) |(refine Sel.cons 5 rfl rfl ?_) |(refine Sel.cons 6 rfl rfl ?_) |(refine Sel.cons 7 rfl rfl ?_));(repeat' first |(exact Sel.refl _) |(refine Sel.drop ?_))
   case hi=>first | assumption | omega |(simp;omega)
   case hp=>first | exact Nat.zero_le _ |(show List.length _≤2;simp at hq;rcases hq with rfl | rfl | rfl | rfl <;> simp)
theorem specl20Lit_d {b:V} (hb:Bytes b) (k:Int):Drw Try.prog 95 b [.int .i64 k] Val.toV (fun v=>v.text.length≤2):=by
 intro s H l i h hi hh
 refine LCalls.body0 Try.func95 rfl (by kernel_rfl) ?_
 repeat' first |(refine kAlloc ?_ ;refine LOps.allocH tT_ok hh rfl rfl ?_ ;intro s n hh) |(refine kStore ?_ ;first |(refine LOps.storeH tT_ok 0 hh rfl rfl rfl rfl rfl rfl rfl rfl rfl ?_ ;intro s hh) |(refine LOps.storeH tT_ok 2 hh rfl rfl rfl rfl rfl rfl rfl rfl rfl ?_ ;intro s hh) |(refine LOps.storeH tT_ok 3 hh rfl rfl rfl rfl rfl rfl rfl rfl rfl ?_ ;intro s hh)) |(refine kBsl ?_ ;refine' LOps.bslH tT_ok rfl rfl rfl rfl rfl rfl rfl rfl hh ?_ ?_ ?_ ;rotate_left 2 ;(focus ((repeat' first |(exact ConsL.pls rfl rfl));done)) ;(focus ((repeat' first |(exact ElsH.of rfl));done)) ;intro s n hh) |(refine kCallN 29 ?_ ;first |(refine LOps.drawH 2 rfl rfl ok29 hh rfl rfl ?_ (specl1PickInt_d hb rfl (by simp)) ?_ ;(focus (first | assumption | omega)) ;intro s x i h hq hi hh ;try dsimp only)) |(refine kCallN 126 ?_ ;first |(refine LOps.drawH 1 rfl rfl ok126 hh rfl rfl ?_ (specl6Typed_t hb _) ?_ ;(focus (first | assumption | omega)) ;intro s x i h hq hi hh ;try dsimp only)) |(refine kOps ?_;first |(refine LOps.nil ?_) |(refine LOps.ev tT_ok rfl ?_) |(refine kLoad ?_;first |(refine LOps.ans (AnsL.loadH tT_ok 0 hh rfl rfl rfl rfl) ?_) |(refine LOps.ans (AnsL.loadH tT_ok 2 hh rfl rfl rfl rfl) ?_))) |(refine kWL ?_;first |(refine WL.seq ?_) |(refine WL.region (by kernel_rfl) ?_) |(refine WL.skip ?_) |(refine WL.ret ?_) |(refine kCond ?_;first |(refine WL.cond rfl (fun h=>?_) (fun h=>?_)))) |(refine lthen_n ?_) |(refine' LPost.r1 (r := .cell 4 25) (.inl rfl) ?_ ?_;rotate_left 1;(focus (first | exact Res1.cellH 0 tT_ok hh rfl rfl rfl rfl | exact Res1.cellH 1 tT_ok hh rfl rfl rfl rfl | exact Res1.cellH 2 tT_ok hh rfl rfl rfl rfl | exact Res1.cellH 3 tT_ok hh rfl rfl rfl rfl | exact Res1.cellH 4 tT_ok hh rfl rfl rfl rfl | exact Res1.cellH 5 tT_ok hh rfl rfl rfl rfl | exact Res1.cellH 6 tT_ok hh rfl rfl rfl rfl | exact Res1.cellH 7 tT_ok hh rfl rfl rfl rfl | exact Res1.cellHW 0 tT_ok hh rfl rfl rfl rfl | exact Res1.cellHW 1 tT_ok hh rfl rfl rfl rfl | exact Res1.cellHW 2 tT_ok hh rfl rfl rfl rfl | exact Res1.cellHW 3 tT_ok hh rfl rfl rfl rfl | exact Res1.cellHW 4 tT_ok hh rfl rfl rfl rfl | exact Res1.cellHW 5 tT_ok hh rfl rfl rfl rfl | exact Res1.cellHW 6 tT_ok hh rfl rfl rfl rfl | exact Res1.cellHW 7 tT_ok hh rfl rfl rfl rfl)))
 all_goals
   apply Drw.fin (x:=⟨_,_,_⟩) (hh:=hh)
   case hv=>first | exact Val.agg_eq _ _ _ | rfl
   case hs=>(first |(refine Sel.cons 0 rfl rfl ?_) |(refine Sel.cons 1 rfl rfl ?_) |(refine Sel.cons 2 rfl rfl ?_) |(refine Sel.cons 3 rfl rfl ?_) |(refine Sel.cons 4 rfl rfl ?_) |(refine Sel.cons 5 rfl rfl ?_) |(refine Sel.cons 6 rfl rfl ?_) |(refine Sel.cons 7 rfl rfl ?_));(repeat' first |(exact Sel.refl _) |(refine Sel.drop ?_))
   case hi=>first | assumption | omega |(simp;omega)
   case hp=>first | assumption | omega
def rwV (r:List Int):V := .sl 0 (r.map iV)
abbrev envW (env:List (List Int)):V := .sl 0 (env.map rwV)
def EnvS (env:List (List Int)):Prop:=env.length≤1000∧∀ r∈env,r.length≤1000
set_option maxHeartbeats 1000000 in
theorem specl20Col_d {b:V} (hb:Bytes b) {env:List (List Int)} (he:EnvS env) (ty:Int):PE.D Try.prog 96 b [envW env,.int .i64 ty] (fun e=>wgt e.v≤2):=by
 intro s H l i h hi hh
 replace hh:Hold s s.next (.cell l (curC b i h)::H):=hh
 obtain ⟨he1,he2⟩:=he
 refine LCalls.body0 Try.func96 rfl (by kernel_rfl) ?_
 repeat' first |(refine kAlloc ?_ ;refine LOps.allocH tT_ok hh rfl rfl ?_ ;intro s n hh) |(refine kStore ?_ ;first |(refine LOps.storeH tT_ok 0 hh rfl rfl rfl rfl rfl rfl rfl rfl rfl ?_ ;intro s hh)) |(refine kCallN 95 ?_ ;first |(refine LOps.drawH 1 rfl rfl ok95 hh rfl rfl ?_ (specl20Lit_d hb _) ?_ ;(focus (first | assumption | omega)) ;intro s x i h hq hi hh ;try dsimp only)) |(refine kOps ?_;first |(refine LOps.nil ?_) |(refine' LOps.ans (v := .agg _) (AnsL.buildZ tT_ok rfl rfl rfl rfl ?_) ?_;rotate_left 1;(focus ((repeat' first |(exact Fills.nil) |(refine' Fills.cons rfl rfl rfl rfl ?_));done))) |(refine LOps.ev tT_ok rfl ?_)) |(refine kWL ?_;first |(refine WL.seq ?_) |(refine WL.region (by kernel_rfl) ?_) |(refine WL.block ?_)) |(refine lthen_n ?_)
 obtain ⟨m,rfl⟩:∃ m,m=n:=⟨n,rfl⟩
 refine WL.loopH (fun y:Nat × Nat × (Int × Val × Int × Int) × Int × Int=>env.length - y.1) (fun y=>[(0,.ptr l 0),(1,envW env),(2,.int .i64 ty),(6,.ptr n 0),(7,.int .i64 (y.2.1:Int)),(8,.ptr m 0),(9,.int .i64 (y.1:Int))])
   (fun y => .cell m [.int .i64 y.2.2.1.1,.int .i64 0,.bool false,.int .i64 y.2.2.1.2.1.kind,.int .i64 y.2.2.1.2.1.num,.str y.2.2.1.2.1.text,.int .i64 y.2.2.1.2.2.1,.int .i64 y.2.2.1.2.2.2,.slm (.is 0) 0 0 0,.slm (.is 0) 0 0 0] :: .cell l (curC b y.2.2.2.1 y.2.2.2.2) :: .cell n [.int .i64 0,.int .i64 0,.bool false,.int .i64 0,.int .i64 0,.str [],.int .i64 0,.int .i64 0,.nilsl,.nilsl]::H)
   (fun y=>((y.1≤env.length∧y.2.1≤1000*y.1)∧y.2.2.1.2.1.text.length≤2)∧0≤y.2.2.2.1) (0,0,(1,x,0,0),i,h) ⟨⟨⟨Nat.zero_le _,Nat.zero_le _⟩,hq⟩,hi⟩ ⟨rfl,rfl,rfl,rfl,rfl,rfl,rfl,trivial⟩ hh (Sel.refl _) (fun y s hI hh=>?_)
 obtain ⟨up,k,⟨qk,qv,qu,qp⟩,i,h⟩:=y
 obtain ⟨⟨⟨hI1,hI2⟩,hqt⟩,hi⟩:=hI
 dsimp only at hI1 hI2 hqt hi hh ⊢
 rcases Nat.lt_or_ge up env.length with hlt | hge
 · have hga:(env.map rwV)[up]?=some (.sl 0 (env[up].map iV)):=by simp [hlt,rwV]
   have hrl:=he2 env[up] (List.getElem_mem hlt)
   generalize env[up]=row at hga hrl
   repeat' first |(refine kOps ?_;first |(refine LOps.nil ?_) |(refine LOps.ev tT_ok rfl ?_) |(refine kLen ?_;first |(refine LOps.ans (AnsL.lenM tT_ok rfl rfl rfl) ?_))) |(refine kWL ?_;first |(refine WL.seq ?_) |(refine WL.region (by kernel_rfl) ?_) |(refine WL.block ?_) |(refine WL.skip ?_) |(refine kCond ?_;first |(refine WL.condT' rfl ?_ ?_;(focus (first |(simp <;> omega)))))) |(refine lthen_n ?_)
   refine WL.loopH (fun y:Nat × Nat × (Int × Val × Int × Int) × Int × Int=>row.length - y.1) (fun y=>[(0,.ptr l 0),(1,envW env),(2,.int .i64 ty),(6,.ptr n 0),(7,.int .i64 (y.2.1:Int)),(8,.ptr m 0),(9,.int .i64 (up:Int)),(10,.int .i64 (y.1:Int))])
     (fun y => .cell m [.int .i64 y.2.2.1.1,.int .i64 0,.bool false,.int .i64 y.2.2.1.2.1.kind,.int .i64 y.2.2.1.2.1.num,.str y.2.2.1.2.1.text,.int .i64 y.2.2.1.2.2.1,.int .i64 y.2.2.1.2.2.2,.slm (.is 0) 0 0 0,.slm (.is 0) 0 0 0] :: .cell l (curC b y.2.2.2.1 y.2.2.2.2) :: .cell n [.int .i64 0,.int .i64 0,.bool false,.int .i64 0,.int .i64 0,.str [],.int .i64 0,.int .i64 0,.nilsl,.nilsl]::H)
     (fun y=>((y.1≤row.length∧y.2.1≤1000*up+y.1)∧y.2.2.1.2.1.text.length≤2)∧0≤y.2.2.2.1) (0,k,(qk,qv,qu,qp),i,h) ⟨⟨⟨Nat.zero_le _,hI2⟩,hqt⟩,hi⟩ ⟨rfl,rfl,rfl,rfl,rfl,rfl,rfl,rfl,trivial⟩ hh (Sel.refl _) (fun y s hI hh=>?_)
   obtain ⟨at',k2,⟨pk,pv,pu,pp⟩,i2,h2⟩:=y
   obtain ⟨⟨⟨hJ1,hJ2⟩,hpt⟩,hi2⟩:=hI
   dsimp only at hJ1 hJ2 hpt hi2 hh ⊢
   rcases Nat.lt_or_ge at' row.length with hlt2 | hge2
   · have hgb:(row.map iV)[at']?=some (.int .i64 row[at']):=by simp [hlt2,iV]
     generalize row[at']=z at hgb
     repeat' first |(refine kStore ?_ ;first |(refine LOps.storeH tT_ok 1 hh rfl rfl rfl rfl rfl rfl rfl rfl rfl ?_ ;intro s hh)) |(refine kCallN 72 ?_ ;first |(refine LOps.drawH 1 rfl rfl ok72 hh rfl rfl ?_ (specl1Once_d hb (by omega)) ?_ ;(focus (first | assumption | omega)) ;intro s x i h hq hi hh ;try dsimp only)) |(refine kOps ?_;first |(refine LOps.nil ?_) |(refine' LOps.ans (v := .agg _) (AnsL.buildZ tT_ok rfl rfl rfl rfl ?_) ?_;rotate_left 1;(focus ((repeat' first |(exact Fills.nil) |(refine' Fills.cons rfl rfl rfl rfl ?_));done))) |(refine LOps.ev tT_ok rfl ?_) |(refine kLen ?_;first |(refine LOps.ans (AnsL.lenM tT_ok rfl rfl rfl) ?_)) |(refine kBin ?_;first |(refine LOps.ans (AnsL.add rfl rfl ?_) ?_;(focus (constructor <;> omega)))) |(refine kIdx ?_;first |(refine LOps.ans (AnsL.idx tT_ok rfl rfl rfl rfl rfl hga rfl rfl) ?_) |(refine LOps.ans (AnsL.idx tT_ok rfl rfl rfl rfl rfl hgb rfl rfl) ?_))) |(refine kWL ?_;first |(refine WL.seq ?_) |(refine WL.region (by kernel_rfl) ?_) |(refine WL.block ?_) |(refine WL.skip ?_) |(refine kCond ?_;first |(refine WL.condT' rfl ?_ ?_;(focus (first |(simp <;> omega)))) |(refine WL.cond rfl (fun h=>?_) (fun h=>?_)))) |(refine lthen_n ?_) |(refine lblock_n ?_)
     · have hs:=hh.sel (.cons 1 rfl rfl (Sel.refl _))
       refine lbackH.of (at'+1,k2+1,(2,⟨0,0,[]⟩,(up:Int),(at':Int)),i,_) ?_ hs (Sel.refl _) ⟨⟨⟨hlt2,by dsimp only;omega⟩,Nat.zero_le _⟩,by assumption⟩ (by dsimp only;omega)
       repeat' first | exact SubL.nil |(refine SubL.mk rfl ?_ ?_) | rfl |(simp;done) |(simp;omega)
     · have hs:=hh.sel (.cons 1 rfl rfl (Sel.refl _))
       refine lbackH.of (at'+1,k2+1,(pk,pv,pu,pp),i,_) ?_ hs (Sel.refl _) ⟨⟨⟨hlt2,by dsimp only;omega⟩,hpt⟩,by assumption⟩ (by dsimp only;omega)
       repeat' first | exact SubL.nil |(refine SubL.mk rfl ?_ ?_) | rfl |(simp;done) |(simp;omega)
     · have hs:=hh.sel (Sel.refl _)
       refine lbackH.of (at'+1,k2,(pk,pv,pu,pp),i2,_) ?_ hs (Sel.refl _) ⟨⟨⟨hlt2,by dsimp only;omega⟩,hpt⟩,by assumption⟩ (by dsimp only;omega)
       repeat' first | exact SubL.nil |(refine SubL.mk rfl ?_ ?_) | rfl |(simp;done) |(simp;omega)
   · skip
     repeat' first |(refine kOps ?_;first |(refine LOps.nil ?_) |(refine LOps.ev tT_ok rfl ?_) |(refine kLen ?_;first |(refine LOps.ans (AnsL.lenM tT_ok rfl rfl rfl) ?_)) |(refine kBin ?_;first |(refine LOps.ans (AnsL.add rfl rfl ?_) ?_;(focus (constructor <;> omega)))) |(refine kIdx ?_;first |(refine LOps.ans (AnsL.idx tT_ok rfl rfl rfl rfl rfl hga rfl rfl) ?_))) |(refine kWL ?_;first |(refine WL.seq ?_) |(refine WL.region (by kernel_rfl) ?_) |(refine WL.exit ?_) |(refine kCond ?_;first |(refine WL.condF' rfl ?_ ?_;(focus (first |(simp <;> omega)))))) |(refine lthen_n ?_) |(refine lthen_e ?_) |(refine lblock_n ?_) |(refine lblock_e ?_) |(refine lbackH_e ?_)
     refine lbackH.of (up+1,k2,(pk,pv,pu,pp),i2,h2) ⟨rfl,rfl,rfl,rfl,rfl,rfl,rfl,trivial⟩ hh (Sel.refl _) ⟨⟨⟨hlt,by dsimp only;omega⟩,hpt⟩,hi2⟩ (by dsimp only;omega)
 · skip
   repeat' first |(refine kStore ?_ ;first |(refine LOps.storeH tT_ok 2 hh rfl rfl rfl rfl rfl rfl rfl rfl rfl ?_ ;intro s hh)) |(refine kOps ?_;first |(refine LOps.nil ?_) |(refine LOps.ev tT_ok rfl ?_) |(refine kLoad ?_;first |(refine LOps.ans (AnsL.loadH tT_ok 0 hh rfl rfl rfl rfl) ?_)) |(refine kLen ?_;first |(refine LOps.ans (AnsL.lenM tT_ok rfl rfl rfl) ?_))) |(refine kWL ?_;first |(refine WL.seq ?_) |(refine WL.region (by kernel_rfl) ?_) |(refine WL.exit ?_) |(refine WL.ret ?_) |(refine kCond ?_;first |(refine WL.condF' rfl ?_ ?_;(focus (first |(simp <;> omega)))))) |(refine lthen_n ?_) |(refine lthen_e ?_) |(refine lblock_e ?_) |(refine lbackH_e ?_) |(refine' LPost.r1 (r := .cell 6 29) (.inl rfl) ?_ ?_;rotate_left 1;(focus (first | exact Res1.cellH 0 tT_ok hh rfl rfl rfl rfl | exact Res1.cellH 1 tT_ok hh rfl rfl rfl rfl | exact Res1.cellH 2 tT_ok hh rfl rfl rfl rfl | exact Res1.cellH 3 tT_ok hh rfl rfl rfl rfl | exact Res1.cellH 4 tT_ok hh rfl rfl rfl rfl | exact Res1.cellH 5 tT_ok hh rfl rfl rfl rfl | exact Res1.cellH 6 tT_ok hh rfl rfl rfl rfl | exact Res1.cellH 7 tT_ok hh rfl rfl rfl rfl | exact Res1.cellHW 0 tT_ok hh rfl rfl rfl rfl | exact Res1.cellHW 1 tT_ok hh rfl rfl rfl rfl | exact Res1.cellHW 2 tT_ok hh rfl rfl rfl rfl | exact Res1.cellHW 3 tT_ok hh rfl rfl rfl rfl | exact Res1.cellHW 4 tT_ok hh rfl rfl rfl rfl | exact Res1.cellHW 5 tT_ok hh rfl rfl rfl rfl | exact Res1.cellHW 6 tT_ok hh rfl rfl rfl rfl | exact Res1.cellHW 7 tT_ok hh rfl rfl rfl rfl)))
   replace hh:=hh.nil0.nil0
   apply DrwB.fin (y:=(PE.mk qk 0 false qv qu qp [] [],fun _=>(0,0))) (hh:=hh)
   case hv=>rfl
   case hi=>assumption
   case hs =>
     dsimp only [PE.ob,List.cons_append,List.nil_append]
     (repeat' first |(exact Sel.nil) |(exact Sel.refl _) |(refine' Sel.p ?_ ?_;rotate_left 1;(focus (((repeat' first |(exact Pick.here) |(refine' Pick.there ?_));done)))))
     (repeat' first |(exact Sel.refl _) |(refine Sel.drop ?_))
   case hp =>
     dsimp only
     rw [PE.wgt_eq]
     simp only [PE.value,PE.kids,PE.sub,wgt_nilP,wgt_nilE,List.length_nil]
     omega
theorem rows_two {a c:Int}:V.flat [iV a,iV c]=[iV a,iV c]:=rfl
theorem specl20Rows_d {b:V} (hb:Bytes b):Drw Try.prog 57 b [] (fun r:List (List Int)=>envW r) (fun r=>r.length≤3∧∀ x∈r,x.length≤2):=by
 intro s H l i h hi hh
 refine VCalls.forgetR ?_
 refine LCalls.body0 Try.func57 rfl (by kernel_rfl) ?_
 repeat' first |(refine kCallN 59 ?_ ;first |(refine LOps.drawH 0 rfl rfl ok59 hh rfl rfl ?_ (specl1Below_d hb (by omega)) ?_ ;(focus (first | assumption | omega)) ;intro s x i h hq hi hh ;try dsimp only)) |(refine kOps ?_;first |(refine LOps.nil ?_) |(refine LOps.ev tT_ok rfl ?_) |(refine kBsl ?_;first |(refine LOps.bsl0 tT_ok rfl rfl rfl rfl rfl ?_))) |(refine kWL ?_;first |(refine WL.seq ?_) |(refine WL.region (by kernel_rfl) ?_) |(refine WL.block ?_)) |(refine lthen_n ?_)
 refine WL.zfamH (t:=3) 1 rfl rfl hh (fun s id hh=>?_)
 replace hh:=hh.toFac (i:=0) rfl rfl
 refine WL.loopH (fun y:List (List Int) × Int × Int=>(x - y.1.length).toNat) (fun y=>[(0,.ptr l 0),(3,.sl id (y.1.map rwV)),(4,.int .i64 x),(5,.int .i64 (y.1.length:Int))])
   (fun y => .fac id 1 (y.1.map rwV) :: .cell l (curC b y.2.1 y.2.2)::H)
   (fun y=>((y.1.length:Int)≤x∧∀ r∈y.1,r.length≤2)∧0≤y.2.1) ([],i,h) ⟨⟨by simp;omega,by simp⟩,hi⟩ ⟨rfl,rfl,rfl,rfl,trivial⟩ hh (Sel.refl _) (fun y s hI hh=>?_)
 obtain ⟨rs,i,h⟩:=y
 obtain ⟨⟨hI,hwI⟩,hi⟩:=hI
 dsimp only at hI hwI hi hh ⊢
 obtain ⟨X,rfl⟩:∃ X,X=x:=⟨x,rfl⟩
 by_cases hlt:(rs.length:Int)<X
 · skip
   repeat' first |(refine kBsl ?_ ;refine LOps.ans (AnsL.bslF tT_ok rfl rfl rfl rfl rfl rfl rfl rfl rfl) ?_) |(refine kCallN 59 ?_ ;first |(refine LOps.drawH 0 rfl rfl ok59 hh rfl rfl ?_ (specl1Below_d hb (by omega)) ?_ ;(focus (first | assumption | omega)) ;intro s x i h hq hi hh ;try dsimp only) |(refine LOps.drawH 1 rfl rfl ok59 hh rfl rfl ?_ (specl1Below_d hb (by omega)) ?_ ;(focus (first | assumption | omega)) ;intro s x i h hq hi hh ;try dsimp only)) |(refine kOps ?_;first |(refine LOps.nil ?_) |(refine LOps.ev tT_ok rfl ?_) |(refine kBin ?_;first |(refine LOps.ans (AnsL.add rfl rfl ?_) ?_;(focus (constructor <;> omega))))) |(refine kWL ?_;first |(refine WL.seq ?_) |(refine WL.region (by kernel_rfl) ?_) |(refine WL.block ?_) |(refine WL.skip ?_) |(refine kCond ?_;first |(refine WL.condT' rfl ?_ ?_;(focus (first |(exact decide_eq_true (by assumption))))))) |(refine lthen_n ?_)
   rename_i s1 a i1 h1 q1 p1 g1 s2 c i2 h2 q2 p2 g2
   have hx:x=0∨x=1:=by omega
   rcases hx with rfl | rfl
   · have e1:(1:Int)+0=((1:Nat):Int):=rfl
     rw [e1]
     repeat' first |(refine kBsl ?_ ;refine LOps.ans (AnsL.bslF tT_ok rfl rfl rfl rfl rfl rfl rfl rfl rfl) ?_) |(refine kApp ?_ ;first |(refine' LOps.appF tT_ok 1 rfl rfl rfl rfl rfl rfl rfl rfl rfl rfl rfl hh ?_ (AppB.of ?_ rfl) ?_ ;(focus ((repeat' first |(exact Elems.of rfl));done)) ;(focus (first | omega |(simp ;omega))) ;intro s hh)) |(refine kOps ?_;first |(refine LOps.nil ?_) |(refine LOps.ev tT_ok rfl ?_) |(refine kBin ?_;first |(refine LOps.ans (AnsL.add rfl rfl ?_) ?_;(focus (constructor <;> omega)))) |(refine kSlc ?_;first |(refine LOps.ans (AnsL.slcT (n:=1) tT_ok rfl rfl rfl rfl rfl (Nat.le_of_ble_eq_true rfl)) ?_))) |(refine kWL ?_;first |(refine WL.region (by kernel_rfl) ?_)) |(refine lthen_n ?_) |(refine lblock_n ?_)
     have hY:rs.map rwV++[.sl 0 (List.take 1 [.int .i64 (1+a),.int .i64 (1+c)])]=(rs++[[1+a]]).map rwV:=by simp [rwV,iV]
     rw [hY] at hh
     refine lbackH.of (rs++[[1+a]],i,h) ?_ hh ?_ ⟨⟨by simp;omega,fun r hr=>?_⟩,hi⟩ (by simp;omega)
     · dsimp only
       rw [← hY]
       repeat' first | exact SubL.nil |(refine SubL.mk rfl ?_ ?_) | rfl |(simp;omega) |(simp <;> fail)
     · dsimp only
       (repeat' first |(exact Sel.refl _) |(refine Sel.cons 0 rfl rfl ?_) |(refine Sel.cons 1 rfl rfl ?_) |(refine Sel.cons 2 rfl rfl ?_) |(refine Sel.cons 3 rfl rfl ?_) |(refine Sel.drop ?_))
     · rcases List.mem_append.1 hr with hr | hr
       · exact hwI r hr
       · rw [List.mem_singleton] at hr;subst hr;simp
   · have e1:(1:Int)+1=((2:Nat):Int):=rfl
     rw [e1]
     repeat' first |(refine kBsl ?_ ;refine LOps.ans (AnsL.bslF tT_ok rfl rfl rfl rfl rfl rfl rfl rfl rfl) ?_) |(refine kApp ?_ ;first |(refine' LOps.appF tT_ok 1 rfl rfl rfl rfl rfl rfl rfl rfl rfl rfl rfl hh ?_ (AppB.of ?_ rfl) ?_ ;(focus ((repeat' first |(exact Elems.of rfl));done)) ;(focus (first | omega |(simp ;omega))) ;intro s hh)) |(refine kOps ?_;first |(refine LOps.nil ?_) |(refine LOps.ev tT_ok rfl ?_) |(refine kBin ?_;first |(refine LOps.ans (AnsL.add rfl rfl ?_) ?_;(focus (constructor <;> omega)))) |(refine kSlc ?_;first |(refine LOps.ans (AnsL.slcT (n:=2) tT_ok rfl rfl rfl rfl rfl (Nat.le_of_ble_eq_true rfl)) ?_))) |(refine kWL ?_;first |(refine WL.region (by kernel_rfl) ?_)) |(refine lthen_n ?_) |(refine lblock_n ?_)
     have hY:rs.map rwV++[.sl 0 (List.take 2 [.int .i64 (1+a),.int .i64 (1+c)])]=(rs++[[1+a,1+c]]).map rwV:=by simp [rwV,iV]
     rw [hY] at hh
     refine lbackH.of (rs++[[1+a,1+c]],i,h) ?_ hh ?_ ⟨⟨by simp;omega,fun r hr=>?_⟩,hi⟩ (by simp;omega)
     · dsimp only
       rw [← hY]
       repeat' first | exact SubL.nil |(refine SubL.mk rfl ?_ ?_) | rfl |(simp;omega) |(simp <;> fail)
     · dsimp only
       (repeat' first |(exact Sel.refl _) |(refine Sel.cons 0 rfl rfl ?_) |(refine Sel.cons 1 rfl rfl ?_) |(refine Sel.cons 2 rfl rfl ?_) |(refine Sel.cons 3 rfl rfl ?_) |(refine Sel.drop ?_))
     · rcases List.mem_append.1 hr with hr | hr
       · exact hwI r hr
       · rw [List.mem_singleton] at hr;subst hr;simp
 · skip
   repeat' first |(refine kOps ?_;first |(refine LOps.nil ?_) |(refine LOps.ev tT_ok rfl ?_)) |(refine kWL ?_;first |(refine WL.seq ?_) |(refine WL.region (by kernel_rfl) ?_) |(refine WL.exit ?_) |(refine WL.ret ?_) |(refine kCond ?_;first |(refine WL.condF' rfl ?_ ?_;(focus (first |(exact decide_eq_false (by assumption))))))) |(refine lthen_n ?_) |(refine lthen_e ?_) |(refine lblock_e ?_) |(refine lbackH_e ?_) |(refine LPost.r1 (r := .tmp 2) (.inl rfl) (Res1.tmp rfl) ?_)
   apply Drw.fin (x:=rs) (hh:=hh)
   case hv=>simp [V.forget,V.forgetL_eq,List.map_map,Function.comp_def,rwV,iV]
   case hp=>exact ⟨by omega,hwI⟩
   case hi=>exact hi
   case hs=>(first |(refine Sel.cons 0 rfl rfl ?_) |(refine Sel.cons 1 rfl rfl ?_) |(refine Sel.cons 2 rfl rfl ?_));(repeat' first |(exact Sel.refl _) |(refine Sel.drop ?_))
end Go.Proofs.Ytolhegocbkckdaa
