/-
 The tokens of a query's tree, walked: FROM; queries. Own work; no condition.
-/
import Derived.Test.YtikghanejpigjaaDTk4
namespace Go.Proofs.Ytikghanejpigjaa
open Go
set_option linter.unusedSimpArgs false
set_option linter.unusedVariables false
theorem tkV_app (a b:List Token):tkV (a++b)=tkV a++tkV b:=List.map_append
theorem tkV_len (a:List Token):(tkV a).length=a.length:=List.length_map ..
set_option maxHeartbeats 1000000 in
theorem specl10From_c (all:Bool) (l:List ESrc) (hll:l.length≤4000000000) (us:List V) (hp:∀ x∈l,∀ e∈x.on,PrC all e) (L:List (Bool × List Token)) (hL:L=l.map fun x=>srcT x.table x.als (x.on.map (EE.tk all))) (hb:us.length+(fromT L L.length).length≤4000000000) :
   AppC Try.prog 101 (fun o=>[o,.sl 0 (l.map ESrc.v),.bool all]) 3 us (us++tkV (fromT L L.length)):=by
 intro s H id hh
 have hLl:L.length=l.length:=by rw [hL,List.length_map]
 have hml:(l.map ESrc.v).length=l.length:=List.length_map ..
 refine LCalls.body0 Try.func101 rfl (by kernel_rfl) ?_
 repeat' first |(refine kOps ?_;first |(refine LOps.nil ?_) |(refine LOps.ev tT_ok rfl ?_)) |(refine kWL ?_;first |(refine WL.seq ?_) |(refine WL.region (by kernel_rfl) ?_) |(refine WL.block ?_)) |(refine lthen_n ?_)
 refine WL.loopH (fun y:Nat × List V=>l.length - y.1) (fun y=>[(0,.sl id y.2),(1,.sl 0 (l.map ESrc.v)),(2,.bool all),(7,.int .i64 (y.1:Int))])
   (fun y => .acc id 3 y.2 y.2::H) (fun y=>y.2=us++tkV (fromT L y.1)∧y.1≤l.length) (0,us) ⟨by simp [fromT],Nat.zero_le _⟩ ⟨rfl,rfl,rfl,rfl,trivial⟩ hh (Sel.refl _) (fun y s hI hh=>?_)
 obtain ⟨i,ws⟩:=y
 obtain ⟨hI,hi⟩:=hI
 dsimp only at hI hi hh ⊢
 have hwl:ws.length=us.length+(fromT L i).length:=by rw [hI,List.length_append,tkV_len]
 rcases Nat.lt_or_ge i l.length with hlt | hge
 · have hga : (l.map ESrc.v)[i]? = some (ESrc.v l[i]) := by simp [hlt]
   have hgL:L.getD i (false,[])=srcT l[i].table l[i].als (l[i].on.map (EE.tk all)):=by simp [hL,hlt]
   have hst:=fromT_succ L i
   have hmo:=fromT_mono L (show i+1≤L.length by omega)
   rw [hgL] at hst
   have hpx:=hp l[i] (List.getElem_mem hlt)
   generalize l[i]=x at hga hst hpx
   obtain ⟨tb,a,on⟩:=x
   unfold ESrc.v at hga
   dsimp only at hga hst hpx
   have hA:=specl10As_c a
   unfold srcT at hst
   cases on with
   | nil =>
     simp only [List.map_nil,List.isEmpty_nil,Bool.not_true,List.append_nil,Bool.false_eq_true,if_false] at hst
     rcases Nat.eq_zero_or_pos i with h0 | h0
     · skip
       rw [if_neg (by omega),List.nil_append] at hst
       rw [hst] at hmo
       simp only [List.length_append,List.length_cons] at hmo
       repeat' first |(refine kApp ?_ ;first |(refine' LOps.appH tT_ok 0 rfl rfl rfl rfl rfl rfl rfl rfl rfl rfl hh ?_ ?_ (AppB.of ?_ rfl) ?_ ;rotate_left 3 ;(focus (first |(apply ConsSp.pl;(focus ((repeat' first |(exact ConsL.pls rfl rfl));done))))) ;(focus ((repeat' first |(exact Elems.of rfl));done)) ;(focus (first | omega |(simp ;omega))) ;intro s hh)) |(refine kCallN 115 ?_ ;first |(refine LOps.accH 0 rfl (hA _ ?_) rfl ok115 hh rfl rfl ?_ ;(focus (first | assumption | omega |(simp only [List.length_append,List.length_map,List.length_cons,List.length_nil] ;omega))) ;intro s hh)) |(refine kOps ?_;first |(refine LOps.nil ?_) |(refine kG ?_;first |(refine LOps.gF rfl rfl rfl ?_) |(refine LOps.gD false rfl rfl rfl ?_ ?_;(focus (first |(simp only [decide_eq_true_eq,decide_eq_false_iff_not,Bool.not_eq_true',Bool.not_eq_false',Int.ofNat_lt,Int.ofNat_le,Int.ofNat_inj,not_true_eq_false,not_false_eq_true];omega))))) |(refine LOps.ev tT_ok rfl ?_) |(refine kLen ?_;first |(refine LOps.ans (AnsL.lenM tT_ok rfl rfl rfl) ?_)) |(refine kBin ?_;first |(refine LOps.ans (AnsL.add rfl rfl ?_) ?_;(focus (constructor <;> omega)))) |(refine kIdx ?_;first |(refine LOps.ans (AnsL.idx tT_ok rfl rfl rfl rfl rfl hga rfl rfl) ?_)) |(refine kCallN 68 ?_;first |(refine LOps.ans (AnsL.callP rfl rfl rfl (ok68) (specl10Name_w _ _)) ?_))) |(refine kWL ?_;first |(refine WL.seq ?_) |(refine WL.region (by kernel_rfl) ?_) |(refine WL.drawn (id:=8) [0,1,2,3,4,5,9,10,11,12,13,6,7,8,14,15] [6,8,14,15] [[],[],[],[1,2],[1,2,3],[1,2,3,4],[1,2,3,4,5],[1,2,3,4,5,6],[0,1,2,3,4,5,6,7],[],[],[9,10],[9,10,11],[9,10,11,12],[0,1,2,3,4,5,6,7,8,9,10,11,12,13],[0,1,2,3,4,5,6,7,8,9,10,11,12,13,14]] (by kernel_rfl) (by kernel_rfl) ?_) |(refine WL.block ?_) |(refine WL.skip ?_) |(refine kCond ?_;first |(refine WL.condF rfl ?_) |(refine WL.condT' rfl ?_ ?_;(focus (first |(simp only [decide_eq_true_eq,decide_eq_false_iff_not,Bool.not_eq_true',Bool.not_eq_false',Int.ofNat_lt,Int.ofNat_le,Int.ofNat_inj,not_true_eq_false,not_false_eq_true];omega)))))) |(refine kDr ?_;first |(refine LDr.nil ?_) |(refine LDr.fl rfl rfl (.ev tT_ok rfl) ?_) |(refine LDr.fl rfl rfl (AnsL.bslF tT_ok rfl rfl rfl rfl rfl rfl rfl rfl rfl) ?_) |(refine kDIdx rfl ?_;first |(refine LDr.fl rfl rfl (AnsL.idx tT_ok rfl rfl rfl rfl rfl hga rfl rfl) ?_)) |(refine LDr.eff rfl rfl rfl ?_)) |(refine lthen_n ?_) |(refine lblock_n ?_) |(refine And.intro ?_ ?_) |(exact StsL.nil) |(refine StsL.cons ?_ ?_) |(refine StL.fl rfl rfl (.ev tT_ok rfl)) |(refine StL.fl rfl rfl (AnsL.idx tT_ok rfl rfl rfl rfl rfl hga rfl rfl))
       refine' lbackH.of (i+1,_) ?_ hh ?_ ?_ ?_
       rotate_left 1
       · try dsimp only
         repeat' first | exact SubL.nil |(refine SubL.mk rfl ?_ ?_) | rfl |(simp;done) |(simp;omega)
       · dsimp only
         (repeat' first |(exact Sel.nil) |(exact Sel.refl _) |(refine' Sel.p ?_ ?_;rotate_left 1;(focus (((repeat' first |(exact Pick.here) |(refine' Pick.there ?_));done)))))
         all_goals (repeat' first |(exact Sel.refl _) |(refine Sel.drop ?_))
       · exact ⟨by simp [hI,hst,sgn,nameT,keyT,tkV,Token.toV,List.append_assoc],hlt⟩
       · dsimp only;omega
     · rw [if_pos h0] at hst
       rw [hst] at hmo
       simp only [List.length_append,List.length_cons] at hmo
       repeat' first |(refine kBsl ?_ ;refine' LOps.bslH tT_ok rfl rfl rfl rfl rfl rfl rfl rfl hh ?_ ?_ ?_ ;rotate_left 2 ;(focus ((repeat' first |(exact ConsL.pls rfl rfl));done)) ;(focus ((repeat' first |(exact ElsH.of rfl));done)) ;intro s n hh) |(refine kApp ?_ ;first |(refine' LOps.appH tT_ok 0 rfl rfl rfl rfl rfl rfl rfl rfl rfl rfl hh ?_ ?_ (AppB.of ?_ rfl) ?_ ;rotate_left 3 ;(focus (first |(apply ConsSp.pl;(focus ((repeat' first |(exact ConsL.pls rfl rfl));done))))) ;(focus ((repeat' first |(exact Elems.of rfl));done)) ;(focus (first | omega |(simp ;omega))) ;intro s hh) |(refine' LOps.appH tT_ok 1 rfl rfl rfl rfl rfl rfl rfl rfl rfl rfl hh ?_ ?_ (AppB.of ?_ rfl) ?_ ;rotate_left 3 ;(focus (first |(refine' ConsSp.ap ?_;((repeat' first |(exact Pick.here));done)))) ;(focus ((repeat' first |(exact Elems.of rfl));done)) ;(focus (first | omega |(simp ;omega))) ;intro s hh)) |(refine kCallN 115 ?_ ;first |(refine LOps.accH 0 rfl (hA _ ?_) rfl ok115 hh rfl rfl ?_ ;(focus (first | assumption | omega |(simp only [List.length_append,List.length_map,List.length_cons,List.length_nil] ;omega))) ;intro s hh)) |(refine kOps ?_;first |(refine LOps.nil ?_) |(refine kG ?_;first |(refine LOps.gT rfl rfl rfl ?_) |(refine LOps.gD true rfl rfl rfl ?_ ?_;(focus (first |(simp only [decide_eq_true_eq,decide_eq_false_iff_not,Bool.not_eq_true',Bool.not_eq_false',Int.ofNat_lt,Int.ofNat_le,Int.ofNat_inj,not_true_eq_false,not_false_eq_true];omega))))) |(refine LOps.ev tT_ok rfl ?_) |(refine kLen ?_;first |(refine LOps.ans (AnsL.lenM tT_ok rfl rfl rfl) ?_)) |(refine kBin ?_;first |(refine LOps.ans (AnsL.add rfl rfl ?_) ?_;(focus (constructor <;> omega)))) |(refine kIdx ?_;first |(refine LOps.ans (AnsL.idx tT_ok rfl rfl rfl rfl rfl hga rfl rfl) ?_)) |(refine kCallN 40 ?_;first |(refine LOps.ans (AnsL.callP rfl rfl rfl (ok40) (specl10Sign_w _ _)) ?_)) |(refine kCallN 68 ?_;first |(refine LOps.ans (AnsL.callP rfl rfl rfl (ok68) (specl10Name_w _ _)) ?_))) |(refine kWL ?_;first |(refine WL.seq ?_) |(refine WL.region (by kernel_rfl) ?_) |(refine WL.drawn (id:=8) [0,1,2,3,4,5,9,10,11,12,13,6,7,8,14,15] [6,8,14,15] [[],[],[],[1,2],[1,2,3],[1,2,3,4],[1,2,3,4,5],[1,2,3,4,5,6],[0,1,2,3,4,5,6,7],[],[],[9,10],[9,10,11],[9,10,11,12],[0,1,2,3,4,5,6,7,8,9,10,11,12,13],[0,1,2,3,4,5,6,7,8,9,10,11,12,13,14]] (by kernel_rfl) (by kernel_rfl) ?_) |(refine WL.block ?_) |(refine WL.skip ?_) |(refine kCond ?_;first |(refine WL.condT rfl ?_) |(refine WL.condF rfl ?_) |(refine WL.condT' rfl ?_ ?_;(focus (first |(simp only [decide_eq_true_eq,decide_eq_false_iff_not,Bool.not_eq_true',Bool.not_eq_false',Int.ofNat_lt,Int.ofNat_le,Int.ofNat_inj,not_true_eq_false,not_false_eq_true];omega)))))) |(refine kDr ?_;first |(refine LDr.nil ?_) |(refine LDr.fl rfl rfl (.ev tT_ok rfl) ?_) |(refine LDr.fl rfl rfl (AnsL.bslF tT_ok rfl rfl rfl rfl rfl rfl rfl rfl rfl) ?_) |(refine kDIdx rfl ?_;first |(refine LDr.fl rfl rfl (AnsL.idx tT_ok rfl rfl rfl rfl rfl hga rfl rfl) ?_)) |(refine LDr.eff rfl rfl rfl ?_)) |(refine lthen_n ?_) |(refine lblock_n ?_) |(refine And.intro ?_ ?_) |(exact StsL.nil) |(refine StsL.cons ?_ ?_) |(refine StL.fl rfl rfl (.ev tT_ok rfl)) |(refine StL.fl rfl rfl (AnsL.idx tT_ok rfl rfl rfl rfl rfl hga rfl rfl))
       refine' lbackH.of (i+1,_) ?_ hh ?_ ?_ ?_
       rotate_left 1
       · try dsimp only
         repeat' first | exact SubL.nil |(refine SubL.mk rfl ?_ ?_) | rfl |(simp;done) |(simp;omega)
       · dsimp only
         (repeat' first |(exact Sel.nil) |(exact Sel.refl _) |(refine' Sel.p ?_ ?_;rotate_left 1;(focus (((repeat' first |(exact Pick.here) |(refine' Pick.there ?_));done)))))
         all_goals (repeat' first |(exact Sel.refl _) |(refine Sel.drop ?_))
       · exact ⟨by simp [hI,hst,sgn,nameT,keyT,tkV,Token.toV,List.append_assoc],hlt⟩
       · dsimp only;omega
   | cons e es =>
     have hP:=hpx e (by simp)
     have hgb:((e::es).map EE.toV)[((0:Int)).toNat]?=some (EE.v e):=by simp [EE.toV_eq]
     have hm1:0<((e::es).map EE.toV).length:=by simp
     have hm2:((e::es).map EE.toV).length≠0:=by simp
     simp only [List.map_cons (f:=EE.tk all),List.isEmpty_cons,Bool.not_false,if_true] at hst
     generalize (e::es).map EE.toV=vs at hga hgb hm1 hm2
     unfold PrC at hP
     generalize e.tk all=ts at hst hP
     rcases Nat.eq_zero_or_pos i with h0 | h0
     · skip
       rw [if_neg (by omega),List.nil_append] at hst
       rw [hst] at hmo
       simp only [List.length_append,List.length_cons] at hmo
       repeat' first |(refine kApp ?_ ;first |(refine' LOps.appH tT_ok 0 rfl rfl rfl rfl rfl rfl rfl rfl rfl rfl hh ?_ ?_ (AppB.of ?_ rfl) ?_ ;rotate_left 3 ;(focus (first |(apply ConsSp.pl;(focus ((repeat' first |(exact ConsL.pls rfl rfl));done))))) ;(focus ((repeat' first |(exact Elems.of rfl));done)) ;(focus (first | omega |(simp ;omega))) ;intro s hh)) |(refine kCallN 115 ?_ ;first |(refine LOps.accH 0 rfl (hA _ ?_) rfl ok115 hh rfl rfl ?_ ;(focus (first | assumption | omega |(simp only [List.length_append,List.length_map,List.length_cons,List.length_nil] ;omega))) ;intro s hh)) |(refine kCallN 37 ?_ ;first |(refine LOps.accH 0 rfl (hP _ ?_) rfl ok37 hh rfl rfl ?_ ;(focus (first | assumption | omega |(simp only [List.length_append,List.length_map,List.length_cons,List.length_nil] ;omega))) ;intro s hh)) |(refine kOps ?_;first |(refine LOps.nil ?_) |(refine kG ?_;first |(refine LOps.gF rfl rfl rfl ?_) |(refine LOps.gD false rfl rfl rfl ?_ ?_;(focus (first |(simp only [decide_eq_true_eq,decide_eq_false_iff_not,Bool.not_eq_true',Bool.not_eq_false',Int.ofNat_lt,Int.ofNat_le,Int.ofNat_inj,not_true_eq_false,not_false_eq_true];omega))))) |(refine LOps.ev tT_ok rfl ?_) |(refine kLen ?_;first |(refine LOps.ans (AnsL.lenM tT_ok rfl rfl rfl) ?_) |(refine LOps.ans (AnsL.lenG tT_ok rfl rfl rfl) ?_)) |(refine kBin ?_;first |(refine LOps.ans (AnsL.add rfl rfl ?_) ?_;(focus (constructor <;> omega)))) |(refine kIdx ?_;first |(refine LOps.ans (AnsL.idx tT_ok rfl rfl rfl rfl rfl hga rfl rfl) ?_)) |(refine kCallN 68 ?_;first |(refine LOps.ans (AnsL.callP rfl rfl rfl (ok68) (specl10Name_w _ _)) ?_)) |(refine kCallN 72 ?_;first |(refine LOps.ans (AnsL.callP rfl rfl rfl (ok72) (specl10Key_w 5 (by omega) _)) ?_))) |(refine kWL ?_;first |(refine WL.seq ?_) |(refine WL.region (by kernel_rfl) ?_) |(refine WL.drawn (id:=8) [0,1,2,3,4,5,9,10,11,12,13,6,7,8,14,15] [6,8,14,15] [[],[],[],[1,2],[1,2,3],[1,2,3,4],[1,2,3,4,5],[1,2,3,4,5,6],[0,1,2,3,4,5,6,7],[],[],[9,10],[9,10,11],[9,10,11,12],[0,1,2,3,4,5,6,7,8,9,10,11,12,13],[0,1,2,3,4,5,6,7,8,9,10,11,12,13,14]] (by kernel_rfl) (by kernel_rfl) ?_) |(refine WL.drawn (id:=10) [0,4,5,6,7,8,9,10,11,1,2,3,12,13] [1,3,12,13] [[],[],[1],[0,1,2],[],[],[4,5],[4,5,6],[4,5,6,7],[4,5,6,7,8],[4,5,6,7,8,9],[],[0,1,2,3,4,5,6,7,8,9,10,11],[0,1,2,3,4,5,6,7,8,9,10,11,12]] (by kernel_rfl) (by kernel_rfl) ?_) |(refine WL.block ?_) |(refine WL.skip ?_) |(refine kCond ?_;first |(refine WL.condF rfl ?_) |(refine WL.condT' rfl ?_ ?_;(focus (first |(simp only [decide_eq_true_eq,decide_eq_false_iff_not,Bool.not_eq_true',Bool.not_eq_false',Int.ofNat_lt,Int.ofNat_le,Int.ofNat_inj,not_true_eq_false,not_false_eq_true];omega)))))) |(refine kDr ?_;first |(refine LDr.nil ?_) |(refine LDr.fl rfl rfl (.ev tT_ok rfl) ?_) |(refine LDr.fl rfl rfl (AnsL.bslF tT_ok rfl rfl rfl rfl rfl rfl rfl rfl rfl) ?_) |(refine kDIdx rfl ?_;first |(refine LDr.fl rfl rfl (AnsL.idx tT_ok rfl rfl rfl rfl rfl hga rfl rfl) ?_) |(refine LDr.fl rfl rfl (AnsL.idxZ tT_ok rfl rfl rfl rfl rfl ?_ hgb rfl rfl) ?_;(focus (omega)))) |(refine LDr.eff rfl rfl rfl ?_)) |(refine lthen_n ?_) |(refine lblock_n ?_) |(refine And.intro ?_ ?_) |(exact StsL.nil) |(refine StsL.cons ?_ ?_) |(refine StL.fl rfl rfl (.ev tT_ok rfl)) |(refine StL.fl rfl rfl (AnsL.idx tT_ok rfl rfl rfl rfl rfl hga rfl rfl)) |(refine StL.fl rfl rfl (AnsL.idxZ tT_ok rfl rfl rfl rfl rfl ?_ hgb rfl rfl);(focus (omega)))
       refine' lbackH.of (i+1,_) ?_ hh ?_ ?_ ?_
       rotate_left 1
       · try dsimp only
         repeat' first | exact SubL.nil |(refine SubL.mk rfl ?_ ?_) | rfl |(simp;done) |(simp;omega)
       · dsimp only
         (repeat' first |(exact Sel.nil) |(exact Sel.refl _) |(refine' Sel.p ?_ ?_;rotate_left 1;(focus (((repeat' first |(exact Pick.here) |(refine' Pick.there ?_));done)))))
         all_goals (repeat' first |(exact Sel.refl _) |(refine Sel.drop ?_))
       · exact ⟨by simp [hI,hst,sgn,nameT,keyT,tkV,Token.toV,List.append_assoc],hlt⟩
       · dsimp only;omega
     · rw [if_pos h0] at hst
       rw [hst] at hmo
       simp only [List.length_append,List.length_cons] at hmo
       repeat' first |(refine kBsl ?_ ;refine' LOps.bslH tT_ok rfl rfl rfl rfl rfl rfl rfl rfl hh ?_ ?_ ?_ ;rotate_left 2 ;(focus ((repeat' first |(exact ConsL.pls rfl rfl));done)) ;(focus ((repeat' first |(exact ElsH.of rfl));done)) ;intro s n hh) |(refine kApp ?_ ;first |(refine' LOps.appH tT_ok 0 rfl rfl rfl rfl rfl rfl rfl rfl rfl rfl hh ?_ ?_ (AppB.of ?_ rfl) ?_ ;rotate_left 3 ;(focus (first |(apply ConsSp.pl;(focus ((repeat' first |(exact ConsL.pls rfl rfl));done))))) ;(focus ((repeat' first |(exact Elems.of rfl));done)) ;(focus (first | omega |(simp ;omega))) ;intro s hh) |(refine' LOps.appH tT_ok 1 rfl rfl rfl rfl rfl rfl rfl rfl rfl rfl hh ?_ ?_ (AppB.of ?_ rfl) ?_ ;rotate_left 3 ;(focus (first |(refine' ConsSp.ap ?_;((repeat' first |(exact Pick.here));done)))) ;(focus ((repeat' first |(exact Elems.of rfl));done)) ;(focus (first | omega |(simp ;omega))) ;intro s hh)) |(refine kCallN 115 ?_ ;first |(refine LOps.accH 0 rfl (hA _ ?_) rfl ok115 hh rfl rfl ?_ ;(focus (first | assumption | omega |(simp only [List.length_append,List.length_map,List.length_cons,List.length_nil] ;omega))) ;intro s hh)) |(refine kCallN 37 ?_ ;first |(refine LOps.accH 0 rfl (hP _ ?_) rfl ok37 hh rfl rfl ?_ ;(focus (first | assumption | omega |(simp only [List.length_append,List.length_map,List.length_cons,List.length_nil] ;omega))) ;intro s hh)) |(refine kOps ?_;first |(refine LOps.nil ?_) |(refine kG ?_;first |(refine LOps.gT rfl rfl rfl ?_) |(refine LOps.gD true rfl rfl rfl ?_ ?_;(focus (first |(simp only [decide_eq_true_eq,decide_eq_false_iff_not,Bool.not_eq_true',Bool.not_eq_false',Int.ofNat_lt,Int.ofNat_le,Int.ofNat_inj,not_true_eq_false,not_false_eq_true];omega))))) |(refine LOps.ev tT_ok rfl ?_) |(refine kLen ?_;first |(refine LOps.ans (AnsL.lenM tT_ok rfl rfl rfl) ?_) |(refine LOps.ans (AnsL.lenG tT_ok rfl rfl rfl) ?_)) |(refine kBin ?_;first |(refine LOps.ans (AnsL.add rfl rfl ?_) ?_;(focus (constructor <;> omega)))) |(refine kIdx ?_;first |(refine LOps.ans (AnsL.idx tT_ok rfl rfl rfl rfl rfl hga rfl rfl) ?_)) |(refine kCallN 68 ?_;first |(refine LOps.ans (AnsL.callP rfl rfl rfl (ok68) (specl10Name_w _ _)) ?_)) |(refine kCallN 72 ?_;first |(refine LOps.ans (AnsL.callP rfl rfl rfl (ok72) (specl10Key_w 5 (by omega) _)) ?_) |(refine LOps.ans (AnsL.callP rfl rfl rfl (ok72) (specl10Key_w 4 (by omega) _)) ?_))) |(refine kWL ?_;first |(refine WL.seq ?_) |(refine WL.region (by kernel_rfl) ?_) |(refine WL.drawn (id:=8) [0,1,2,3,4,5,9,10,11,12,13,6,7,8,14,15] [6,8,14,15] [[],[],[],[1,2],[1,2,3],[1,2,3,4],[1,2,3,4,5],[1,2,3,4,5,6],[0,1,2,3,4,5,6,7],[],[],[9,10],[9,10,11],[9,10,11,12],[0,1,2,3,4,5,6,7,8,9,10,11,12,13],[0,1,2,3,4,5,6,7,8,9,10,11,12,13,14]] (by kernel_rfl) (by kernel_rfl) ?_) |(refine WL.drawn (id:=10) [0,4,5,6,7,8,9,10,11,1,2,3,12,13] [1,3,12,13] [[],[],[1],[0,1,2],[],[],[4,5],[4,5,6],[4,5,6,7],[4,5,6,7,8],[4,5,6,7,8,9],[],[0,1,2,3,4,5,6,7,8,9,10,11],[0,1,2,3,4,5,6,7,8,9,10,11,12]] (by kernel_rfl) (by kernel_rfl) ?_) |(refine WL.block ?_) |(refine WL.skip ?_) |(refine kCond ?_;first |(refine WL.condT' rfl ?_ ?_;(focus (first |(simp only [decide_eq_true_eq,decide_eq_false_iff_not,Bool.not_eq_true',Bool.not_eq_false',Int.ofNat_lt,Int.ofNat_le,Int.ofNat_inj,not_true_eq_false,not_false_eq_true];omega)))) |(refine WL.condF' rfl ?_ ?_;(focus (first |(simp only [decide_eq_true_eq,decide_eq_false_iff_not,Bool.not_eq_true',Bool.not_eq_false',Int.ofNat_lt,Int.ofNat_le,Int.ofNat_inj,not_true_eq_false,not_false_eq_true];omega)))))) |(refine kDr ?_;first |(refine LDr.nil ?_) |(refine LDr.fl rfl rfl (.ev tT_ok rfl) ?_) |(refine LDr.fl rfl rfl (AnsL.bslF tT_ok rfl rfl rfl rfl rfl rfl rfl rfl rfl) ?_) |(refine kDIdx rfl ?_;first |(refine LDr.fl rfl rfl (AnsL.idx tT_ok rfl rfl rfl rfl rfl hga rfl rfl) ?_) |(refine LDr.fl rfl rfl (AnsL.idxZ tT_ok rfl rfl rfl rfl rfl ?_ hgb rfl rfl) ?_;(focus (omega)))) |(refine LDr.eff rfl rfl rfl ?_)) |(refine lthen_n ?_) |(refine lblock_n ?_) |(refine And.intro ?_ ?_) |(exact StsL.nil) |(refine StsL.cons ?_ ?_) |(refine StL.fl rfl rfl (.ev tT_ok rfl)) |(refine StL.fl rfl rfl (AnsL.idx tT_ok rfl rfl rfl rfl rfl hga rfl rfl)) |(refine StL.fl rfl rfl (AnsL.idxZ tT_ok rfl rfl rfl rfl rfl ?_ hgb rfl rfl);(focus (omega)))
       refine' lbackH.of (i+1,_) ?_ hh ?_ ?_ ?_
       rotate_left 1
       · try dsimp only
         repeat' first | exact SubL.nil |(refine SubL.mk rfl ?_ ?_) | rfl |(simp;done) |(simp;omega)
       · dsimp only
         (repeat' first |(exact Sel.nil) |(exact Sel.refl _) |(refine' Sel.p ?_ ?_;rotate_left 1;(focus (((repeat' first |(exact Pick.here) |(refine' Pick.there ?_));done)))))
         all_goals (repeat' first |(exact Sel.refl _) |(refine Sel.drop ?_))
       · exact ⟨by simp [hI,hst,sgn,nameT,keyT,tkV,Token.toV,List.append_assoc],hlt⟩
       · dsimp only;omega
 · have e : i = L.length := by omega
   subst e
   repeat' first |(refine kOps ?_;first |(refine LOps.nil ?_) |(refine LOps.ev tT_ok rfl ?_) |(refine kLen ?_;first |(refine LOps.ans (AnsL.lenM tT_ok rfl rfl rfl) ?_))) |(refine kWL ?_;first |(refine WL.seq ?_) |(refine WL.region (by kernel_rfl) ?_) |(refine WL.exit ?_) |(refine WL.ret ?_) |(refine kCond ?_;first |(refine WL.condF' rfl ?_ ?_;(focus (first |(simp only [decide_eq_true_eq,decide_eq_false_iff_not,Bool.not_eq_true',Bool.not_eq_false',Int.ofNat_lt,Int.ofNat_le,Int.ofNat_inj,not_true_eq_false,not_false_eq_true];omega)))))) |(refine lthen_n ?_) |(refine lthen_e ?_) |(refine lblock_e ?_) |(refine lbackH_e ?_) |(refine LPost.r1 (r := .tmp 6) (.inl rfl) (Res1.tmp rfl) ?_)
   subst hI
   exact AppC.fin rfl hh (by (repeat' first |(exact Sel.nil) |(exact Sel.refl _) |(refine' Sel.p ?_ ?_;rotate_left 1;(focus (((repeat' first |(exact Pick.here) |(refine' Pick.there ?_));done)))));all_goals (repeat' first |(exact Sel.refl _) |(refine Sel.drop ?_)))
end Go.Proofs.Ytikghanejpigjaa
