/-
 The tokens of a query's tree, walked: names, items, conditions, sources. Own work; no condition.
-/
import Derived.Test.YtikghanejpigjaaDTk3
namespace Go.Proofs.Ytikghanejpigjaa
open Go
set_option linter.unusedSimpArgs false
set_option linter.unusedVariables false
theorem specl10As_c (a:List UInt8) (us:List V) (hb:us.length≤5000000000):AppC Try.prog 115 (fun o=>[o,.str a]) 3 us (us++tkV (asT a)):=by
 intro s H id hh
 unfold asT
 refine LCalls.body0 Try.func115 rfl (by kernel_rfl) ?_
 by_cases h:a=[]
 · subst h
   repeat' first |(refine kOps ?_;first |(refine LOps.nil ?_) |(refine LOps.ev tT_ok rfl ?_)) |(refine kWL ?_;first |(refine WL.seq ?_) |(refine WL.region (by kernel_rfl) ?_) |(refine WL.ret ?_) |(refine kCond ?_;first |(refine WL.condT rfl ?_))) |(refine lthen_n ?_) |(refine lthen_r ?_) |(refine LPost.r1 (r := .tmp 4) (.inl rfl) (Res1.tmp rfl) ?_)
   exact AppC.fin (by simp) hh (by (repeat' first |(exact Sel.nil) |(exact Sel.refl _) |(refine' Sel.p ?_ ?_;rotate_left 1;(focus (((repeat' first |(exact Pick.here) |(refine' Pick.there ?_));done)))));all_goals (repeat' first |(exact Sel.refl _) |(refine Sel.drop ?_)))
 · rw [if_neg h]
   repeat' first |(refine kBsl ?_ ;refine' LOps.bslH tT_ok rfl rfl rfl rfl rfl rfl rfl rfl hh ?_ ?_ ?_ ;rotate_left 2 ;(focus ((repeat' first |(exact ConsL.pls rfl rfl));done)) ;(focus ((repeat' first |(exact ElsH.of rfl));done)) ;intro s n hh) |(refine kApp ?_ ;first |(refine' LOps.appH tT_ok 1 rfl rfl rfl rfl rfl rfl rfl rfl rfl rfl hh ?_ ?_ (AppB.of ?_ rfl) ?_ ;rotate_left 3 ;(focus (first |(refine' ConsSp.ap ?_;((repeat' first |(exact Pick.here));done)))) ;(focus ((repeat' first |(exact Elems.of rfl));done)) ;(focus (first | omega |(simp ;omega))) ;intro s hh)) |(refine kOps ?_;first |(refine LOps.nil ?_) |(refine LOps.ev tT_ok rfl ?_) |(refine kCallN 68 ?_;first |(refine LOps.ans (AnsL.callP rfl rfl rfl (ok68) (specl10Name_w _ _)) ?_)) |(refine kCallN 72 ?_;first |(refine LOps.ans (AnsL.callP rfl rfl rfl (ok72) (specl10Key_w 12 (by omega) _)) ?_))) |(refine kWL ?_;first |(refine WL.seq ?_) |(refine WL.region (by kernel_rfl) ?_) |(refine WL.skip ?_) |(refine WL.ret ?_) |(refine kCond ?_;first |(refine WL.condF' rfl ?_ ?_;(focus (first |(exact decide_eq_false (by assumption))))))) |(refine lthen_n ?_) |(refine LPost.r1 (r := .tmp 4) (.inl rfl) (Res1.tmp rfl) ?_)
   refine AppC.fin ?_ hh (by (repeat' first |(exact Sel.nil) |(exact Sel.refl _) |(refine' Sel.p ?_ ?_;rotate_left 1;(focus (((repeat' first |(exact Pick.here) |(refine' Pick.there ?_));done)))));all_goals (repeat' first |(exact Sel.refl _) |(refine Sel.drop ?_)))
   simp [sgn,nameT,tkV,Token.toV,List.append_assoc]
theorem specl10Not_c (e:EE) (us:List V) (hb:us.length≤5000000000):AppC Try.prog 73 (fun o=>[o,e.v]) 3 us (us++tkV (notT e.nt)):=by
 intro s H id hh
 unfold notT EE.v
 generalize e.nt=b
 refine LCalls.body0 Try.func73 rfl (by kernel_rfl) ?_
 cases b
 · skip
   repeat' first |(refine kBox ?_ ;first |(refine LOps.boxH hh rfl rfl ?_ ;intro s n hh)) |(refine kOps ?_;first |(refine LOps.nil ?_) |(refine LOps.ev tT_ok rfl ?_) |(refine kLoad ?_;first |(refine LOps.ans (AnsL.loadH tT_ok 0 hh rfl rfl rfl rfl) ?_))) |(refine kWL ?_;first |(refine WL.seq ?_) |(refine WL.region (by kernel_rfl) ?_) |(refine WL.skip ?_) |(refine WL.ret ?_) |(refine kCond ?_;first |(refine WL.condF rfl ?_))) |(refine lthen_n ?_) |(refine LPost.r1 (r := .tmp 4) (.inl rfl) (Res1.tmp rfl) ?_)
   exact AppC.fin (by simp) hh (by (repeat' first |(exact Sel.nil) |(exact Sel.refl _) |(refine' Sel.p ?_ ?_;rotate_left 1;(focus (((repeat' first |(exact Pick.here) |(refine' Pick.there ?_));done)))));all_goals (repeat' first |(exact Sel.refl _) |(refine Sel.drop ?_)))
 · skip
   repeat' first |(refine kBox ?_ ;first |(refine LOps.boxH hh rfl rfl ?_ ;intro s n hh)) |(refine kBsl ?_ ;refine' LOps.bslH tT_ok rfl rfl rfl rfl rfl rfl rfl rfl hh ?_ ?_ ?_ ;rotate_left 2 ;(focus ((repeat' first |(exact ConsL.pls rfl rfl));done)) ;(focus ((repeat' first |(exact ElsH.of rfl));done)) ;intro s n hh) |(refine kApp ?_ ;first |(refine' LOps.appH tT_ok 2 rfl rfl rfl rfl rfl rfl rfl rfl rfl rfl hh ?_ ?_ (AppB.of ?_ rfl) ?_ ;rotate_left 3 ;(focus (first |(refine' ConsSp.ap ?_;((repeat' first |(exact Pick.here));done)))) ;(focus ((repeat' first |(exact Elems.of rfl));done)) ;(focus (first | omega |(simp ;omega))) ;intro s hh)) |(refine kOps ?_;first |(refine LOps.nil ?_) |(refine LOps.ev tT_ok rfl ?_) |(refine kLoad ?_;first |(refine LOps.ans (AnsL.loadH tT_ok 0 hh rfl rfl rfl rfl) ?_)) |(refine kCallN 72 ?_;first |(refine LOps.ans (AnsL.callP rfl rfl rfl (ok72) (specl10Key_w 15 (by omega) _)) ?_))) |(refine kWL ?_;first |(refine WL.seq ?_) |(refine WL.region (by kernel_rfl) ?_) |(refine WL.ret ?_) |(refine kCond ?_;first |(refine WL.condT rfl ?_))) |(refine lthen_n ?_) |(refine lthen_r ?_) |(refine LPost.r1 (r := .tmp 4) (.inl rfl) (Res1.tmp rfl) ?_)
   refine AppC.fin ?_ hh (by (repeat' first |(exact Sel.nil) |(exact Sel.refl _) |(refine' Sel.p ?_ ?_;rotate_left 1;(focus (((repeat' first |(exact Pick.here) |(refine' Pick.there ?_));done)))));all_goals (repeat' first |(exact Sel.refl _) |(refine Sel.drop ?_)))
   simp [sgn,nameT,tkV,Token.toV,List.append_assoc]
theorem specl10Where_c (all:Bool) (l:List EE) (us:List V) (hp:∀ e∈l,PrC all e) (hb:us.length+(whereT (l.map (EE.tk all))).length≤4000000000):AppC Try.prog 102 (fun o=>[o,.sl 0 (l.map EE.toV),.bool all]) 3 us (us++tkV (whereT (l.map (EE.tk all)))):=by
 intro s H id hh
 cases l with
 | nil =>
   refine LCalls.body0 Try.func102 rfl (by kernel_rfl) ?_
   repeat' first |(refine kOps ?_;first |(refine LOps.nil ?_) |(refine LOps.ev tT_ok rfl ?_) |(refine kLen ?_;first |(refine LOps.ans (AnsL.lenM tT_ok rfl rfl rfl) ?_))) |(refine kWL ?_;first |(refine WL.seq ?_) |(refine WL.region (by kernel_rfl) ?_) |(refine WL.ret ?_) |(refine kCond ?_;first |(refine WL.condT rfl ?_))) |(refine lthen_n ?_) |(refine lthen_r ?_) |(refine LPost.r1 (r := .tmp 6) (.inl rfl) (Res1.tmp rfl) ?_)
   exact AppC.fin (by simp [whereT]) hh (by (repeat' first |(exact Sel.nil) |(exact Sel.refl _) |(refine' Sel.p ?_ ?_;rotate_left 1;(focus (((repeat' first |(exact Pick.here) |(refine' Pick.there ?_));done)))));all_goals (repeat' first |(exact Sel.refl _) |(refine Sel.drop ?_)))
 | cons e l =>
   have hP:=hp e (by simp)
   have hga:((e::l).map EE.toV)[((0:Int)).toNat]?=some (EE.v e):=by simp [EE.toV_eq]
   have hml:0<((e::l).map EE.toV).length:=by simp
   have hm1:((e::l).map EE.toV).length≠0:=by simp
   simp only [List.map_cons (f:=EE.tk all),whereT,List.length_cons] at hb ⊢
   generalize (e::l).map EE.toV=vs at hga hml hm1 ⊢
   unfold PrC at hP
   generalize e.tk all=ts at hb hP ⊢
   refine LCalls.body0 Try.func102 rfl (by kernel_rfl) ?_
   repeat' first |(refine kApp ?_ ;first |(refine' LOps.appH tT_ok 0 rfl rfl rfl rfl rfl rfl rfl rfl rfl rfl hh ?_ ?_ (AppB.of ?_ rfl) ?_ ;rotate_left 3 ;(focus (first |(apply ConsSp.pl;(focus ((repeat' first |(exact ConsL.pls rfl rfl));done))))) ;(focus ((repeat' first |(exact Elems.of rfl));done)) ;(focus (first | omega |(simp ;omega))) ;intro s hh)) |(refine kCallN 37 ?_ ;first |(refine LOps.accH 0 rfl (hP _ ?_) rfl ok37 hh rfl rfl ?_ ;(focus (first | assumption | omega |(simp only [List.length_append,List.length_map,List.length_cons,List.length_nil] ;omega))) ;intro s hh)) |(refine kOps ?_;first |(refine LOps.nil ?_) |(refine LOps.ev tT_ok rfl ?_) |(refine kLen ?_;first |(refine LOps.ans (AnsL.lenG tT_ok rfl rfl rfl) ?_)) |(refine kCallN 72 ?_;first |(refine LOps.ans (AnsL.callP rfl rfl rfl (ok72) (specl10Key_w 6 (by omega) _)) ?_))) |(refine kWL ?_;first |(refine WL.seq ?_) |(refine WL.region (by kernel_rfl) ?_) |(refine WL.drawn (id:=3) [0,4,5,6,7,1,2,3,8,9] [1,3,8] [[],[],[1],[0,1,2],[],[4],[4,5],[],[0,1,2,3,4,5,6,7],[0,1,2,3,4,5,6,7,8]] (by kernel_rfl) (by kernel_rfl) ?_) |(refine WL.skip ?_) |(refine WL.ret ?_) |(refine kCond ?_;first |(refine WL.condF' rfl ?_ ?_;(focus (first |(simp only [decide_eq_true_eq,decide_eq_false_iff_not,Bool.not_eq_true',Bool.not_eq_false',Int.ofNat_lt,Int.ofNat_le,Int.ofNat_inj,not_true_eq_false,not_false_eq_true];omega)))))) |(refine kDr ?_;first |(refine LDr.nil ?_) |(refine LDr.fl rfl rfl (.ev tT_ok rfl) ?_) |(refine LDr.fl rfl rfl (AnsL.bslF tT_ok rfl rfl rfl rfl rfl rfl rfl rfl rfl) ?_) |(refine kDIdx rfl ?_;first |(refine LDr.fl rfl rfl (AnsL.idxZ tT_ok rfl rfl rfl rfl rfl ?_ hga rfl rfl) ?_;(focus (omega)))) |(refine LDr.eff rfl rfl rfl ?_)) |(refine lthen_n ?_) |(refine LPost.r1 (r := .tmp 6) (.inl rfl) (Res1.tmp rfl) ?_) |(refine And.intro ?_ ?_) |(exact StsL.nil) |(refine StsL.cons ?_ ?_) |(refine StL.fl rfl rfl (.ev tT_ok rfl)) |(refine StL.fl rfl rfl (AnsL.idxZ tT_ok rfl rfl rfl rfl rfl ?_ hga rfl rfl);(focus (omega)))
   refine AppC.fin ?_ hh (by (repeat' first |(exact Sel.nil) |(exact Sel.refl _) |(refine' Sel.p ?_ ?_;rotate_left 1;(focus (((repeat' first |(exact Pick.here) |(refine' Pick.there ?_));done)))));all_goals (repeat' first |(exact Sel.refl _) |(refine Sel.drop ?_)))
   simp [sgn,nameT,tkV,Token.toV,List.append_assoc]
theorem specl10Item_c (all:Bool) (x:EItem) (us:List V) (hp:x.star=false→PrC all x.e) (hb:us.length+(itemT x.star x.qual x.als (x.e.tk all)).length≤4000000000):AppC Try.prog 100 (fun o=>[o,EItem.v x,.bool all]) 3 us (us++tkV (itemT x.star x.qual x.als (x.e.tk all))):=by
 intro s H id hh
 obtain ⟨st,q,e,a⟩:=x
 dsimp only at hp hb ⊢
 unfold EItem.v
 unfold itemT at hb ⊢
 refine LCalls.body0 Try.func100 rfl (by kernel_rfl) ?_
 cases st
 · have hP := hp rfl
   unfold PrC at hP
   rw [if_neg (by decide)] at hb ⊢
   generalize e.tk all=ts at hb hP ⊢
   have hA:=specl10As_c a
   generalize asT a=ta at hb hA ⊢
   simp only [List.length_append] at hb
   unfold EE.v at hP
   repeat' first |(refine kBox ?_ ;first |(refine LOps.boxH hh rfl rfl ?_ ;intro s n hh)) |(refine kCallN 37 ?_ ;first |(refine LOps.accH 1 rfl (hP _ ?_) rfl ok37 hh rfl rfl ?_ ;(focus (first | assumption | omega)) ;intro s hh)) |(refine kCallN 115 ?_ ;first |(refine LOps.accH 0 rfl (hA _ ?_) rfl ok115 hh rfl rfl ?_ ;(focus (first | assumption | omega |(simp only [List.length_append,List.length_map,List.length_cons,List.length_nil] ;omega))) ;intro s hh)) |(refine kOps ?_;first |(refine LOps.nil ?_) |(refine LOps.ev tT_ok rfl ?_) |(refine kLoad ?_;first |(refine LOps.ans (AnsL.loadH tT_ok 0 hh rfl rfl rfl rfl) ?_))) |(refine kWL ?_;first |(refine WL.seq ?_) |(refine WL.region (by kernel_rfl) ?_) |(refine WL.drawn (id:=2) [0,1,2,3,5,6,4,7,8] [4,7] [[],[],[1],[],[0,1,2,3],[],[5],[0,1,2,3,4,5,6],[0,1,2,3,4,5,6,7]] (by kernel_rfl) (by kernel_rfl) ?_) |(refine WL.ret ?_) |(refine kCond ?_;first |(refine WL.condT rfl ?_))) |(refine kDr ?_;first |(refine LDr.nil ?_) |(refine LDr.fl rfl rfl (.ev tT_ok rfl) ?_) |(refine kDLoad rfl ?_;first |(refine LDr.fl rfl rfl (AnsL.loadH tT_ok 0 hh rfl rfl rfl rfl) ?_)) |(refine LDr.eff rfl rfl rfl ?_)) |(refine lthen_n ?_) |(refine lthen_r ?_) |(refine LPost.r1 (r := .tmp 6) (.inl rfl) (Res1.tmp rfl) ?_) |(refine And.intro ?_ ?_) |(exact StsL.nil) |(refine StsL.cons ?_ ?_) |(refine StL.fl rfl rfl (.ev tT_ok rfl)) |(refine StL.fl rfl rfl (AnsL.loadH tT_ok 1 hh rfl rfl rfl rfl))
   refine AppC.fin ?_ hh (by (repeat' first |(exact Sel.nil) |(exact Sel.refl _) |(refine' Sel.p ?_ ?_;rotate_left 1;(focus (((repeat' first |(exact Pick.here) |(refine' Pick.there ?_));done)))));all_goals (repeat' first |(exact Sel.refl _) |(refine Sel.drop ?_)))
   simp [sgn,nameT,tkV,Token.toV,List.append_assoc]
 · rw [if_pos rfl] at hb ⊢
   unfold qualT at hb ⊢
   by_cases hq:q=[]
   · subst hq
     simp at hb
     repeat' first |(refine kBox ?_ ;first |(refine LOps.boxH hh rfl rfl ?_ ;intro s n hh)) |(refine kBsl ?_ ;refine' LOps.bslH tT_ok rfl rfl rfl rfl rfl rfl rfl rfl hh ?_ ?_ ?_ ;rotate_left 2 ;(focus ((repeat' first |(exact ConsL.pls rfl rfl));done)) ;(focus ((repeat' first |(exact ElsH.of rfl));done)) ;intro s n hh) |(refine kApp ?_ ;first |(refine' LOps.appH tT_ok 2 rfl rfl rfl rfl rfl rfl rfl rfl rfl rfl hh ?_ ?_ (AppB.of ?_ rfl) ?_ ;rotate_left 3 ;(focus (first |(refine' ConsSp.ap ?_;((repeat' first |(exact Pick.here));done)))) ;(focus ((repeat' first |(exact Elems.of rfl));done)) ;(focus (first | omega |(simp ;omega))) ;intro s hh)) |(refine kOps ?_;first |(refine LOps.nil ?_) |(refine LOps.ev tT_ok rfl ?_) |(refine kLoad ?_;first |(refine LOps.ans (AnsL.loadH tT_ok 0 hh rfl rfl rfl rfl) ?_)) |(refine kCallN 40 ?_;first |(refine LOps.ans (AnsL.callP rfl rfl rfl (ok40) (specl10Sign_w _ _)) ?_))) |(refine kWL ?_;first |(refine WL.seq ?_) |(refine WL.region (by kernel_rfl) ?_) |(refine WL.skip ?_) |(refine WL.ret ?_) |(refine kCond ?_;first |(refine WL.condF rfl ?_))) |(refine lthen_n ?_) |(refine LPost.r1 (r := .tmp 6) (.inl rfl) (Res1.tmp rfl) ?_)
     refine AppC.fin ?_ hh (by (repeat' first |(exact Sel.nil) |(exact Sel.refl _) |(refine' Sel.p ?_ ?_;rotate_left 1;(focus (((repeat' first |(exact Pick.here) |(refine' Pick.there ?_));done)))));all_goals (repeat' first |(exact Sel.refl _) |(refine Sel.drop ?_)))
     simp [sgn,nameT,tkV,Token.toV,List.append_assoc]
   · rw [if_neg hq] at hb ⊢
     simp at hb
     repeat' first |(refine kBox ?_ ;first |(refine LOps.boxH hh rfl rfl ?_ ;intro s n hh)) |(refine kBsl ?_ ;refine' LOps.bslH tT_ok rfl rfl rfl rfl rfl rfl rfl rfl hh ?_ ?_ ?_ ;rotate_left 2 ;(focus ((repeat' first |(exact ConsL.pls rfl rfl));done)) ;(focus ((repeat' first |(exact ElsH.of rfl));done)) ;intro s n hh) |(refine kApp ?_ ;first |(refine' LOps.appH tT_ok 1 rfl rfl rfl rfl rfl rfl rfl rfl rfl rfl hh ?_ ?_ (AppB.of ?_ rfl) ?_ ;rotate_left 3 ;(focus (first |(refine' ConsSp.ap ?_;((repeat' first |(exact Pick.here));done)))) ;(focus ((repeat' first |(exact Elems.of rfl));done)) ;(focus (first | omega |(simp ;omega))) ;intro s hh) |(refine' LOps.appH tT_ok 2 rfl rfl rfl rfl rfl rfl rfl rfl rfl rfl hh ?_ ?_ (AppB.of ?_ rfl) ?_ ;rotate_left 3 ;(focus (first |(refine' ConsSp.ap ?_;((repeat' first |(exact Pick.here));done)))) ;(focus ((repeat' first |(exact Elems.of rfl));done)) ;(focus (first | omega |(simp ;omega))) ;intro s hh)) |(refine kOps ?_;first |(refine LOps.nil ?_) |(refine LOps.ev tT_ok rfl ?_) |(refine kLoad ?_;first |(refine LOps.ans (AnsL.loadH tT_ok 0 hh rfl rfl rfl rfl) ?_)) |(refine kCallN 40 ?_;first |(refine LOps.ans (AnsL.callP rfl rfl rfl (ok40) (specl10Sign_w _ _)) ?_)) |(refine kCallN 68 ?_;first |(refine LOps.ans (AnsL.callP rfl rfl rfl (ok68) (specl10Name_w _ _)) ?_))) |(refine kWL ?_;first |(refine WL.seq ?_) |(refine WL.region (by kernel_rfl) ?_) |(refine WL.skip ?_) |(refine WL.ret ?_) |(refine kCond ?_;first |(refine WL.condF rfl ?_) |(refine WL.condT' rfl ?_ ?_;(focus (first |(simp only [decide_eq_true_eq,decide_eq_false_iff_not,Bool.not_eq_true',Bool.not_eq_false',Int.ofNat_lt,Int.ofNat_le,Int.ofNat_inj,not_true_eq_false,not_false_eq_true];omega)))))) |(refine lthen_n ?_) |(refine LPost.r1 (r := .tmp 6) (.inl rfl) (Res1.tmp rfl) ?_)
     refine AppC.fin ?_ hh (by (repeat' first |(exact Sel.nil) |(exact Sel.refl _) |(refine' Sel.p ?_ ?_;rotate_left 1;(focus (((repeat' first |(exact Pick.here) |(refine' Pick.there ?_));done)))));all_goals (repeat' first |(exact Sel.refl _) |(refine Sel.drop ?_)))
     simp [sgn,nameT,tkV,Token.toV,List.append_assoc]
theorem fromT_succ (l:List (Bool × List Token)) (n:Nat):fromT l (n+1)=fromT l n++((if 0<n then [if (l.getD n (false,[])).1 then keyT 4 else sgn 44] else [])++(l.getD n (false,[])).2):=rfl
theorem fromT_mono (l:List (Bool × List Token)) {i j:Nat} (h:i≤j):(fromT l i).length≤(fromT l j).length:=by
 induction h with
 | refl=>exact Nat.le_refl _
 | step h ih=>rw [fromT_succ,List.length_append];omega
theorem sepC_succ (l:List (List Token)) (n:Nat):sepC l (n+1)=sepC l n++((if 0<n then [sgn 44] else [])++l.getD n []):=rfl
theorem sepC_mono (l:List (List Token)) {i j:Nat} (h:i≤j):(sepC l i).length≤(sepC l j).length:=by
 induction h with
 | refl=>exact Nat.le_refl _
 | step h ih=>rw [sepC_succ,List.length_append];omega
theorem ordT_succ (l:List (List Token × Bool)) (n:Nat):ordT l (n+1)=ordT l n++((if n=0 then [keyT 7,keyT 8] else [sgn 44])++((l.getD n ([],false)).1++if (l.getD n ([],false)).2 then [keyT 10] else [])):=rfl
theorem ordT_mono (l:List (List Token × Bool)) {i j:Nat} (h:i≤j):(ordT l i).length≤(ordT l j).length:=by
 induction h with
 | refl=>exact Nat.le_refl _
 | step h ih=>rw [ordT_succ,List.length_append];omega
end Go.Proofs.Ytikghanejpigjaa
