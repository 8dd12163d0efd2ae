/-
 The rows of tokens that the laws of parentheses draw. Own work; no condition.
-/
import Derived.Test.YtikghanejpigjaaMg33
import Derived.Test.YtikghanejpigjaaDTok2
import Derived.Test.YtikghanejpigjaaDTk7
import Derived.Test.YtikghanejpigjaaDTkL
import Derived.Test.YtikghanejpigjaaDEd3
namespace Go.Proofs.Ytikghanejpigjaa
open Go
set_option linter.unusedSimpArgs false
set_option linter.unusedVariables false
theorem fgtTk:∀ l:List Token,(l.map Token.toV).map V.forget=l.map Token.toV
 | []=>rfl
 | t::l=>by rw [List.map_cons,List.map_cons,fgtTk l,Token.forget]
theorem tk_pos (all:Bool) (e:EE):0<(e.tk all).length:=by
 rw [EE.tk_eq,asm]
 repeat' split
 all_goals simp only [List.length_append,List.length_cons,List.length_nil];omega
theorem cons_of {α : Type} {l:List α} (h:0<l.length):∃ a r,l=a::r:=by
 cases l with
 | nil=>simp at h
 | cons a r=>exact ⟨a,r,rfl⟩
set_option maxHeartbeats 2000000 in
theorem specl14List_d {b:V} (hb:Bytes b):DrwAll Try.prog 16 b (fun us:List Token => .sl 0 (us.map Token.toV)) (fun us=>us.length≤1000000):=by
 intro s H hh
 refine LCalls.body0 Try.func16 rfl (by kernel_rfl) ?_
 repeat' first |(refine kAlloc ?_ ;refine LOps.allocH tT_ok hh rfl rfl ?_ ;intro s n hh) |(refine kStore ?_ ;first |(refine LOps.storeH tT_ok 0 hh rfl rfl rfl rfl rfl rfl rfl rfl rfl ?_ ;intro s hh)) |(refine kCallN 38 ?_ ;refine LOps.outB rfl rfl ok38 hh (specl12Small_d hb) ?_ ;intro s y hqO hh ;try dsimp only [List.cons_append,List.nil_append] at hh) |(refine kOps ?_;first |(refine LOps.nil ?_) |(refine LOps.ev tT_ok rfl ?_)) |(refine kWL ?_;first |(refine WL.seq ?_) |(refine WL.region (by kernel_rfl) ?_)) |(refine lthen_n ?_)
 obtain ⟨⟨e,f⟩,m,i,h⟩:=y
 obtain ⟨⟨hwt,hsh⟩,hi⟩:=hqO
 dsimp only at hwt hsh hi hh ⊢
 have hwE:wE 3=866:=by decide
 have hE:∀ all,AppC Try.prog 37 (fun o=>[o,e.v,.bool all]) 3 [] (tkV (e.tk all)):=fun all=>by
   have hl:=tk_len all e
   have:=specl10Expr_c all e hsh (by omega) [] (by simp only [List.length_nil];omega)
   rwa [List.nil_append] at this
 have hT:∀ all,0<(e.tk all).length∧(e.tk all).length≤14000:=fun all=>⟨tk_pos all e,by have:=tk_len all e;omega⟩
 refine WL.frzC (ds:=[.int .i64 e.kind,.int .i64 e.op,.bool e.nt,.int .i64 e.value.kind,.int .i64 e.value.num,.str e.value.text,.str e.qual,.str e.name,.sl 0 (e.kids.map EE.toV),.sl 0 (e.sub.map EE.queryV)]) (hh.pack (by ((repeat' first |(exact ConsOL.nil) |(exact ConsO.scal rfl) |(exact ConsO.slm0) |(refine' ConsO.op ?_;((repeat' first |(exact Pick.here) |(refine' Pick.there ?_));done)) |(refine' ConsOL.cons ?_ ?_) |(refine' ConsO.agg ?_));done))) (fun s hh=>?_)
 unfold EE.v at hE
 repeat' first |(refine kCallN 39 ?_ ;first |(refine LOps.drawH 1 rfl rfl ok39 hh rfl rfl ?_ (specl1Once_d hb (by omega)) ?_ ;(focus (first | assumption | omega)) ;intro s x i h hq hi hh ;try dsimp only)) |(refine kCallN 37 ?_ ;refine LOps.accF rfl (hE _) rfl ok37 hh ?_ ;intro s id hh) |(refine kOps ?_;first |(refine LOps.nil ?_) |(refine LOps.ev tT_ok rfl ?_) |(refine kLen ?_;first |(refine LOps.ans (AnsL.lenM tT_ok rfl rfl rfl) ?_))) |(refine kWL ?_;first |(refine WL.seq ?_) |(refine WL.region (by kernel_rfl) ?_) |(refine WL.drawn (id:=2) [0,1,2,3,4,5] [3,4] [[],[],[],[2],[0,1,2,3],[0,1,2,3,4]] (by kernel_rfl) (by kernel_rfl) ?_)) |(refine kDr ?_;first |(refine LDr.nil ?_) |(refine LDr.fl rfl rfl (.ev tT_ok rfl) ?_) |(refine LDr.fl rfl rfl (AnsL.bslZ tT_ok rfl rfl rfl rfl rfl) ?_) |(refine kDLoad rfl ?_;first |(refine LDr.fl rfl rfl (AnsL.loadH tT_ok 0 hh rfl rfl rfl rfl) ?_)) |(refine LDr.eff rfl rfl rfl ?_)) |(refine lthen_n ?_) |(refine And.intro ?_ ?_) |(exact StsL.nil) |(refine StsL.cons ?_ ?_) |(refine StL.fl rfl rfl (AnsL.bslZ tT_ok rfl rfl rfl rfl rfl)) |(refine StL.fl rfl rfl (AnsL.loadH tT_ok 1 hh rfl rfl rfl rfl))
 rename Bool=>all
 have hT:=hT all
 generalize e.tk all=ts at hT hh ⊢
 have hml:(tkV ts).length=ts.length:=List.length_map ..
 refine WL.fgtS 5 rfl (fgtTk _) ?_
 refine WL.cutH (fun y:Nat × List Token × Int × Int=>[(3,.ptr m 0),(5,.sl y.1 (tkV y.2.1))]) (fun y => .cell m (curC b y.2.2.1 y.2.2.2)::H) (fun y=>(0<y.2.1.length∧y.2.1.length≤14000)∧0≤y.2.2.1) ?_ (fun y s hI hh=>?_)
 · by_cases h60 : 60 < ts.length
   · have hs6 : 60 ≤ (tkV ts).length := by omega
     have y1:(tkV ts).take 60=tkV (ts.take 60):=(List.map_take ..).symm
     repeat' first |(refine kOps ?_;first |(refine LOps.nil ?_) |(refine LOps.ev tT_ok rfl ?_) |(refine kSlc ?_;first |(refine LOps.ans (AnsL.slcU (n:=60) tT_ok rfl rfl rfl rfl rfl hs6 y1) ?_))) |(refine kWL ?_;first |(refine WL.region (by kernel_rfl) ?_) |(refine kCond ?_;first |(refine WL.condT' rfl ?_ ?_;(focus (first |(simp <;> omega))))))
     refine' CutH.of (_,_,_,_) ?_ hh ?_ ?_
     rotate_left 4
     · try dsimp only
       repeat' first | exact SubL.nil |(refine SubL.mk rfl ?_ ?_) | rfl |(simp;done)
     · try dsimp only
       (repeat' first |(exact Sel.nil) |(exact Sel.refl _) |(refine' Sel.p ?_ ?_;rotate_left 1;(focus (((repeat' first |(exact Pick.here) |(refine' Pick.there ?_));done)))))
       all_goals (repeat' first |(exact Sel.refl _) |(refine Sel.drop ?_))
     · exact ⟨⟨by rw [List.length_take];omega,by rw [List.length_take];omega⟩,by assumption⟩
   · skip
     repeat' first |(refine kWL ?_;first |(refine WL.skip ?_) |(refine kCond ?_;first |(refine WL.condF' rfl ?_ ?_;(focus (first |(simp <;> omega))))))
     refine' CutH.of (_,_,_,_) ?_ hh ?_ ?_
     rotate_left 4
     · try dsimp only
       repeat' first | exact SubL.nil |(refine SubL.mk rfl ?_ ?_) | rfl |(simp;done)
     · try dsimp only
       (repeat' first |(exact Sel.nil) |(exact Sel.refl _) |(refine' Sel.p ?_ ?_;rotate_left 1;(focus (((repeat' first |(exact Pick.here) |(refine' Pick.there ?_));done)))))
       all_goals (repeat' first |(exact Sel.refl _) |(refine Sel.drop ?_))
     · exact ⟨hT,by assumption⟩
 obtain ⟨id1,us,i1,h1⟩:=y
 obtain ⟨hU,hi1⟩:=hI
 dsimp only at hU hi1 hh ⊢
 refine lthen_n ?_
 refine WL.fgtS 5 rfl (fgtTk _) ?_
 have hul:(tkV us).length=us.length:=List.length_map ..
 have hup:=plainTk us
 have huc:=cvTk us
 repeat' first |(refine kCallN 39 ?_ ;first |(refine LOps.drawH 0 rfl rfl ok39 hh rfl rfl ?_ (specl1Once_d hb (by omega)) ?_ ;(focus (first | assumption | omega)) ;intro s x i h hq hi hh ;try dsimp only)) |(refine kOps ?_;first |(refine LOps.nil ?_) |(refine LOps.ev tT_ok rfl ?_)) |(refine kWL ?_;first |(refine WL.seq ?_) |(refine WL.region (by kernel_rfl) ?_)) |(refine lthen_n ?_)
 refine WL.cutH (fun y:Nat × List Token × Int × Int=>[(3,.ptr m 0),(5,.sl y.1 (tkV y.2.1))]) (fun y => .cell m (curC b y.2.2.1 y.2.2.2)::H) (fun y=>(0<y.2.1.length∧y.2.1.length≤14002)∧0≤y.2.2.1) ?_ (fun y s hI hh=>?_)
 · skip
   repeat' first |(refine kBsl ?_ ;refine' LOps.bslH tT_ok rfl rfl rfl rfl rfl rfl rfl rfl hh ?_ ?_ ?_ ;rotate_left 2 ;(focus ((repeat' first |(exact ConsL.nil) |(exact Cons.pl rfl rfl) |(refine' ConsL.cons ?_ ?_));done)) ;(focus ((repeat' first |(exact ElsH.of rfl));done)) ;intro s n hh) |(refine kApp ?_ ;first |(refine' LOps.appH tT_ok 0 rfl rfl rfl rfl rfl rfl rfl rfl rfl rfl hh ?_ ?_ (AppB.of ?_ rfl) ?_ ;rotate_left 3 ;(focus (first |(apply ConsSp.pl;(focus ((repeat' first |(exact ConsL.pls (by assumption) (by assumption)));done))))) ;(focus ((repeat' first |(exact Elems.map fun _=>rfl));done)) ;(focus (first | omega |(simp ;omega))) ;intro s hh) |(refine' LOps.appH tT_ok 1 rfl rfl rfl rfl rfl rfl rfl rfl rfl rfl hh ?_ ?_ (AppB.of ?_ rfl) ?_ ;rotate_left 3 ;(focus (first |(refine' ConsSp.ap ?_;((repeat' first |(exact Pick.here));done)))) ;(focus ((repeat' first |(exact Elems.of rfl));done)) ;(focus (first | omega |(simp ;omega))) ;intro s hh)) |(refine kOps ?_;first |(refine LOps.nil ?_) |(refine LOps.ev tT_ok rfl ?_) |(refine kCallN 40 ?_;first |(refine LOps.ans (AnsL.callP rfl rfl rfl (ok40) (specl10Sign_w _ _)) ?_))) |(refine kWL ?_;first |(refine WL.region (by kernel_rfl) ?_) |(refine WL.skip ?_) |(refine kCond ?_;first |(refine WL.cond rfl (fun h=>?_) (fun h=>?_))))
   · refine' CutH.of (_, sgn 40 :: (us ++ [sgn 41]), _, _) ?_ hh ?_ ?_
     rotate_left 3
     · try dsimp only
       repeat' first | exact SubL.nil |(refine SubL.mk rfl ?_ ?_) | rfl |(refine congrArg (V.sl _) ?_;simp [tkV,sgn,Token.toV];done)
     · try dsimp only
       (repeat' first |(exact Sel.nil) |(exact Sel.refl _) |(refine' Sel.p ?_ ?_;rotate_left 1;(focus (((repeat' first |(exact Pick.here) |(refine' Pick.there ?_));done)))))
       all_goals (repeat' first |(exact Sel.refl _) |(refine Sel.drop ?_))
     · exact ⟨⟨by simp,by simp;omega⟩,by assumption⟩
   · refine' CutH.of (_, _, _, _) ?_ hh ?_ ?_
     rotate_left 4
     · try dsimp only
       repeat' first | exact SubL.nil |(refine SubL.mk rfl ?_ ?_) | rfl |(simp;done)
     · try dsimp only
       (repeat' first |(exact Sel.nil) |(exact Sel.refl _) |(refine' Sel.p ?_ ?_;rotate_left 1;(focus (((repeat' first |(exact Pick.here) |(refine' Pick.there ?_));done)))))
       all_goals (repeat' first |(exact Sel.refl _) |(refine Sel.drop ?_))
     · exact ⟨⟨hU.1,Nat.le_trans hU.2 (by decide)⟩,by assumption⟩
 obtain ⟨id2,vs,i2,h2⟩:=y
 obtain ⟨hV,hi2⟩:=hI
 dsimp only at hV hi2 hh ⊢
 refine lthen_n ?_
 refine WL.fgtS 5 rfl (fgtTk _) ?_
 obtain ⟨t0,ts0,rfl⟩:=cons_of hV.1
 have hV2:ts0.length+1≤14002:=hV.2
 have hlv:ts0.length≤1000000:=by have:=hV.2;simp only [List.length_cons] at this;omega
 repeat' first |(refine kCallN 39 ?_ ;first |(refine LOps.drawH 0 rfl rfl ok39 hh rfl rfl ?_ (specl1Once_d hb (by omega)) ?_ ;(focus (first | assumption | omega)) ;intro s x i h hq hi hh ;try dsimp only)) |(refine kCallN 41 ?_ ;first |(refine LOps.drawH 0 rfl rfl ok41 hh rfl rfl ?_ (specl12Turned_d hb t0 ts0 hlv) ?_ ;(focus (first | assumption | omega)) ;intro s x i h hq hi hh ;try dsimp only)) |(refine kOps ?_;first |(refine LOps.nil ?_) |(refine LOps.ev tT_ok rfl ?_)) |(refine kWL ?_;first |(refine WL.seq ?_) |(refine WL.region (by kernel_rfl) ?_) |(refine WL.skip ?_) |(refine WL.ret ?_) |(refine kCond ?_;first |(refine WL.cond rfl (fun h=>?_) (fun h=>?_)))) |(refine lthen_n ?_) |(refine lthen_r ?_) |(refine LPost.r1 (r := .tmp 2) (.inl rfl) (Res1.tmp rfl) ?_)
 · refine ⟨_, _, ?_, rfl, rfl, hh.sel (by (repeat' first | (exact Sel.nil) | (exact Sel.refl _) | (refine' Sel.p ?_ ?_; rotate_left 1; (focus (((repeat' first | (exact Pick.here) | (refine' Pick.there ?_)); done))))); all_goals (repeat' first | (exact Sel.refl _) | (refine Sel.drop ?_)))⟩
   omega
 · refine ⟨_, _, ?_, rfl, rfl, hh.sel (by (repeat' first | (exact Sel.nil) | (exact Sel.refl _) | (refine' Sel.p ?_ ?_; rotate_left 1; (focus (((repeat' first | (exact Pick.here) | (refine' Pick.there ?_)); done))))); all_goals (repeat' first | (exact Sel.refl _) | (refine Sel.drop ?_)))⟩
   show ts0.length+1≤_
   omega
theorem specDrawPairsOf_d {b:V} (hb:Bytes b):DrwAll Try.prog 6 b (fun us:List Token => .sl 0 (us.map Token.toV)) (fun us=>us.length≤1000000):=by
 intro s H hh
 refine LCalls.body0 Try.func6 rfl (by kernel_rfl) ?_
 repeat' first |(refine kCallN 16 ?_ ;refine LOps.drawAll rfl rfl ok16 hh (specl14List_d hb) ?_ ;intro s x hq hh) |(refine kOps ?_;first |(refine LOps.nil ?_) |(refine LOps.ev tT_ok rfl ?_)) |(refine kWL ?_;first |(refine WL.seq ?_) |(refine WL.region (by kernel_rfl) ?_) |(refine WL.ret ?_)) |(refine lthen_n ?_) |(refine LPost.r1 (r := .tmp 2) (.inl rfl) (Res1.tmp rfl) ?_)
 exact ⟨_,_,hq,rfl,rfl,hh⟩
end Go.Proofs.Ytikghanejpigjaa
