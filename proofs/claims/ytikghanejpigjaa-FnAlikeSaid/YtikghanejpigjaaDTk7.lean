/-
 The tokens of a query's tree, walked whole: by induction on the tree. Own work; no condition.
-/
import Derived.Test.YtikghanejpigjaaDTk6
namespace Go.Proofs.Ytikghanejpigjaa
open Go
set_option linter.unusedSimpArgs false
set_option linter.unusedVariables false
theorem in_at {all:Bool} {kd op:Int} {ks:List (Int × List Token)} {j:Nat} (h:j+1<ks.length):((List.range (ks.length - 1)).map fun j=>kidT all kd op ks (j+1)).getD j []=kidT all kd op ks (j+1):=by
 have:j<ks.length - 1:=by omega
 simp [this]
set_option maxHeartbeats 4000000 in
theorem specl10Expr_c (all:Bool) (e:EE):Sh e→wgt e.v≤1000000000→PrC all e:=by
 induction e using EE.ind with
 | h e ih1 ih2 =>
 intro hs hw us hb s H id hh
 have hK:=fun (k:Nat) (hk:k<e.kids.length)=>specl10Kid_c all e k hk (ih1 _ (List.getElem_mem hk) (hs.kid (List.getElem_mem hk)) (Nat.le_trans (EE.wgt_kid (List.getElem_mem hk)) hw))
 have hQ':∀ h:0<e.sub.length,∀ us:List V,us.length+(EE.tkQ all e.sub[0]).length≤4000000000→AppC Try.prog 71 (fun o=>[o,EQ.v e.sub[0],.bool all]) 3 us (us++tkV (EE.tkQ all e.sub[0])):=fun h us hb=>by
   have hm:e.sub[0]∈e.sub:=List.getElem_mem h
   have hi:∀ k∈(e.sub[0]).exprs,PrC all k:=fun k hk=>by
     have hkp:k∈(e.sub[0]).parts:=by
       simp only [QueryOf.exprs,QueryOf.parts,List.mem_append,List.mem_map,List.mem_filter] at hk ⊢
       rcases hk with ((⟨x,⟨h5,h6⟩,rfl⟩ | h5) | h5) | h5
       · exact .inl (.inl (.inl ⟨x,h5,rfl⟩))
       · exact .inl (.inl (.inr h5))
       · exact .inl (.inr h5)
       · exact .inr h5
     exact ih2 _ hm k hkp (hs.part hm hk) (Nat.le_trans (Nat.le_trans (EQ.wgt_part hkp) (EE.wgt_sub hm)) hw)
   refine specl10Query_c all e.sub[0] us (fun x hx hst=>hi _ ?_) (fun x hx k hk=>hi _ ?_) (fun k hk=>hi _ ?_) (fun x hx=>hi _ ?_) hb (Nat.le_trans (EE.wgt_sub hm) hw)
   · simp only [QueryOf.exprs,List.mem_append,List.mem_map,List.mem_filter];exact .inl (.inl (.inl ⟨x,⟨hx,by simp [hst]⟩,rfl⟩))
   · simp only [QueryOf.exprs,List.mem_append,List.mem_flatten,List.mem_map];exact .inl (.inl (.inr ⟨x.on,⟨x,hx,rfl⟩,hk⟩))
   · simp only [QueryOf.exprs,List.mem_append];exact .inl (.inr hk)
   · simp only [QueryOf.exprs,List.mem_append,List.mem_map];exact .inr ⟨x,hx,rfl⟩
 have hN:=specl10Not_c e
 obtain ⟨g3,g9,g8,g4,g6,g0⟩:=hs.sh
 have hkl:e.kids.length≤1000000000:=by
   have h1:=EE.wgt_eq e
   have h2:=wgt_len EE.toV e.kids
   omega
 have hml:(e.kids.map EE.toV).length=e.kids.length:=List.length_map ..
 have hms:(e.sub.map EE.queryV).length=e.sub.length:=List.length_map ..
 have hkt:=EE.kt_len all e
 clear ih1 ih2
 rw [EE.tk_eq,asm] at hb ⊢
 unfold EE.v at hN hK ⊢
 refine LCalls.body0 Try.func37 rfl (by kernel_rfl) ?_
 by_cases k1:e.kind=1
 · rw [if_pos k1] at hb ⊢
   simp only [List.length_cons,List.length_nil] at hb
   repeat' first |(refine kBox ?_ ;first |(refine LOps.boxH hh rfl rfl ?_ ;intro s n hh)) |(refine kBsl ?_ ;refine' LOps.bslH tT_ok rfl rfl rfl rfl rfl rfl rfl rfl hh ?_ ?_ ?_ ;rotate_left 2 ;(focus ((repeat' first |(exact ConsL.pls rfl rfl));done)) ;(focus ((repeat' first |(exact ElsH.of rfl));done)) ;intro s n hh) |(refine kApp ?_ ;first |(refine' LOps.appH tT_ok 2 rfl rfl rfl rfl rfl rfl rfl rfl rfl rfl hh ?_ ?_ (AppB.of ?_ rfl) ?_ ;rotate_left 3 ;(focus (first |(refine' ConsSp.ap ?_;((repeat' first |(exact Pick.here));done)))) ;(focus ((repeat' first |(exact Elems.of rfl));done)) ;(focus (first | omega |(simp ;omega))) ;intro s hh)) |(refine kOps ?_;first |(refine LOps.nil ?_) |(refine LOps.ev tT_ok rfl ?_) |(refine kLoad ?_;first |(refine LOps.ans (AnsL.loadH tT_ok 0 hh rfl rfl rfl rfl) ?_)) |(refine kCallN 67 ?_;first |(refine LOps.ans (AnsL.callP rfl rfl rfl (ok67) (specl10Lit_w _ _)) ?_))) |(refine kWL ?_;first |(refine WL.seq ?_) |(refine WL.region (by kernel_rfl) ?_) |(refine WL.block ?_) |(refine WL.ret ?_) |(refine kCond ?_;first |(refine WL.condT' rfl ?_ ?_;(focus (first |(exact decide_eq_true (by assumption))))))) |(refine lthen_n ?_) |(refine lthen_r ?_) |(refine lblock_r ?_) |(refine LPost.r1 (r := .tmp 6) (.inl rfl) (Res1.tmp rfl) ?_)
   refine AppC.fin ?_ hh (by (repeat' first |(exact Sel.nil) |(exact Sel.refl _) |(refine' Sel.p ?_ ?_;rotate_left 1;(focus (((repeat' first |(exact Pick.here) |(refine' Pick.there ?_));done)))));all_goals (repeat' first |(exact Sel.refl _) |(refine Sel.drop ?_)))
   simp [sgn,nameT,tkV,Token.toV,List.append_assoc]
 rw [if_neg k1] at hb ⊢
 by_cases k2:e.kind=2
 · rw [if_pos k2] at hb ⊢
   unfold qualT at hb ⊢
   by_cases hq:e.qual=[]
   · rw [if_pos hq] at hb ⊢
     simp at hb
     generalize e.qual=qq at hq hh ⊢
     subst hq
     repeat' first |(refine kBox ?_ ;first |(refine LOps.boxH hh rfl rfl ?_ ;intro s n hh)) |(refine kBsl ?_ ;refine' LOps.bslH tT_ok rfl rfl rfl rfl rfl rfl rfl rfl hh ?_ ?_ ?_ ;rotate_left 2 ;(focus ((repeat' first |(exact ConsL.pls rfl rfl));done)) ;(focus ((repeat' first |(exact ElsH.of rfl));done)) ;intro s n hh) |(refine kApp ?_ ;first |(refine' LOps.appH tT_ok 2 rfl rfl rfl rfl rfl rfl rfl rfl rfl rfl hh ?_ ?_ (AppB.of ?_ rfl) ?_ ;rotate_left 3 ;(focus (first |(refine' ConsSp.ap ?_;((repeat' first |(exact Pick.here));done)))) ;(focus ((repeat' first |(exact Elems.of rfl));done)) ;(focus (first | omega |(simp ;omega))) ;intro s hh)) |(refine kOps ?_;first |(refine LOps.nil ?_) |(refine LOps.ev tT_ok rfl ?_) |(refine kLoad ?_;first |(refine LOps.ans (AnsL.loadH tT_ok 0 hh rfl rfl rfl rfl) ?_)) |(refine kCallN 68 ?_;first |(refine LOps.ans (AnsL.callP rfl rfl rfl (ok68) (specl10Name_w _ _)) ?_))) |(refine kWL ?_;first |(refine WL.seq ?_) |(refine WL.region (by kernel_rfl) ?_) |(refine WL.block ?_) |(refine WL.skip ?_) |(refine WL.ret ?_) |(refine kCond ?_;first |(refine WL.condF rfl ?_) |(refine WL.condT' rfl ?_ ?_;(focus (first |(exact decide_eq_true (by assumption))))) |(refine WL.condF' rfl ?_ ?_;(focus (first |(exact decide_eq_false (by assumption))))))) |(refine lthen_n ?_) |(refine lthen_r ?_) |(refine lblock_r ?_) |(refine LPost.r1 (r := .tmp 6) (.inl rfl) (Res1.tmp rfl) ?_)
     refine AppC.fin ?_ hh (by (repeat' first |(exact Sel.nil) |(exact Sel.refl _) |(refine' Sel.p ?_ ?_;rotate_left 1;(focus (((repeat' first |(exact Pick.here) |(refine' Pick.there ?_));done)))));all_goals (repeat' first |(exact Sel.refl _) |(refine Sel.drop ?_)))
     simp [sgn,nameT,tkV,Token.toV,List.append_assoc]
   · rw [if_neg hq] at hb ⊢
     simp at hb
     repeat' first |(refine kBox ?_ ;first |(refine LOps.boxH hh rfl rfl ?_ ;intro s n hh)) |(refine kBsl ?_ ;refine' LOps.bslH tT_ok rfl rfl rfl rfl rfl rfl rfl rfl hh ?_ ?_ ?_ ;rotate_left 2 ;(focus ((repeat' first |(exact ConsL.pls rfl rfl));done)) ;(focus ((repeat' first |(exact ElsH.of rfl));done)) ;intro s n hh) |(refine kApp ?_ ;first |(refine' LOps.appH tT_ok 1 rfl rfl rfl rfl rfl rfl rfl rfl rfl rfl hh ?_ ?_ (AppB.of ?_ rfl) ?_ ;rotate_left 3 ;(focus (first |(refine' ConsSp.ap ?_;((repeat' first |(exact Pick.here));done)))) ;(focus ((repeat' first |(exact Elems.of rfl));done)) ;(focus (first | omega |(simp ;omega))) ;intro s hh) |(refine' LOps.appH tT_ok 2 rfl rfl rfl rfl rfl rfl rfl rfl rfl rfl hh ?_ ?_ (AppB.of ?_ rfl) ?_ ;rotate_left 3 ;(focus (first |(refine' ConsSp.ap ?_;((repeat' first |(exact Pick.here));done)))) ;(focus ((repeat' first |(exact Elems.of rfl));done)) ;(focus (first | omega |(simp ;omega))) ;intro s hh)) |(refine kOps ?_;first |(refine LOps.nil ?_) |(refine LOps.ev tT_ok rfl ?_) |(refine kLoad ?_;first |(refine LOps.ans (AnsL.loadH tT_ok 0 hh rfl rfl rfl rfl) ?_) |(refine LOps.ans (AnsL.loadH tT_ok 1 hh rfl rfl rfl rfl) ?_)) |(refine kCallN 40 ?_;first |(refine LOps.ans (AnsL.callP rfl rfl rfl (ok40) (specl10Sign_w _ _)) ?_)) |(refine kCallN 68 ?_;first |(refine LOps.ans (AnsL.callP rfl rfl rfl (ok68) (specl10Name_w _ _)) ?_))) |(refine kWL ?_;first |(refine WL.seq ?_) |(refine WL.region (by kernel_rfl) ?_) |(refine WL.block ?_) |(refine WL.ret ?_) |(refine kCond ?_;first |(refine WL.condT' rfl ?_ ?_;(focus (first |(exact decide_eq_true (by assumption)) |(simp only [decide_eq_true_eq,decide_eq_false_iff_not,Bool.not_eq_true',Bool.not_eq_false',Int.ofNat_lt,Int.ofNat_le,Int.ofNat_inj,not_true_eq_false,not_false_eq_true];omega)))) |(refine WL.condF' rfl ?_ ?_;(focus (first |(exact decide_eq_false (by assumption))))))) |(refine lthen_n ?_) |(refine lthen_r ?_) |(refine lblock_r ?_) |(refine LPost.r1 (r := .tmp 6) (.inl rfl) (Res1.tmp rfl) ?_)
     refine AppC.fin ?_ hh (by (repeat' first |(exact Sel.nil) |(exact Sel.refl _) |(refine' Sel.p ?_ ?_;rotate_left 1;(focus (((repeat' first |(exact Pick.here) |(refine' Pick.there ?_));done)))));all_goals (repeat' first |(exact Sel.refl _) |(refine Sel.drop ?_)))
     simp [sgn,nameT,tkV,Token.toV,List.append_assoc]
 rw [if_neg k2] at hb ⊢
 by_cases k3:e.kind=3
 · rw [if_pos k3] at hb ⊢
   have hK0:=hK 0 (by omega)
   generalize kidT all e.kind e.op (e.kt all) 0=K0 at hK0 hb ⊢
   simp only [List.length_cons] at hb
   repeat' first |(refine kBox ?_ ;first |(refine LOps.boxH hh rfl rfl ?_ ;intro s n hh)) |(refine kApp ?_ ;first |(refine' LOps.appH tT_ok 1 rfl rfl rfl rfl rfl rfl rfl rfl rfl rfl hh ?_ ?_ (AppB.of ?_ rfl) ?_ ;rotate_left 3 ;(focus (first |(apply ConsSp.pl;(focus ((repeat' first |(exact ConsL.pls rfl rfl));done))))) ;(focus ((repeat' first |(exact Elems.of rfl));done)) ;(focus (first | omega |(simp ;omega))) ;intro s hh)) |(refine kCallN 69 ?_ ;first |(refine LOps.accH 0 rfl (hK0 _ ?_) rfl ok69 hh rfl rfl ?_ ;(focus (first | assumption | omega |(simp only [List.length_append,List.length_map,List.length_cons,List.length_nil] ;omega))) ;intro s hh)) |(refine kOps ?_;first |(refine LOps.nil ?_) |(refine LOps.ev tT_ok rfl ?_) |(refine kLoad ?_;first |(refine LOps.ans (AnsL.loadH tT_ok 0 hh rfl rfl rfl rfl) ?_)) |(refine kCallN 70 ?_;first |(refine LOps.ans (AnsL.callP rfl rfl rfl (ok70) (specl10Op_w _ _)) ?_))) |(refine kWL ?_;first |(refine WL.seq ?_) |(refine WL.region (by kernel_rfl) ?_) |(refine WL.drawn (id:=9) [0,1,2,6,7,3,4,5,8,9] [3,5,8] [[],[],[1],[1,2],[1,2,3],[0,1,2,3,4],[],[],[0,1,2,3,4,5,6,7],[0,1,2,3,4,5,6,7,8]] (by kernel_rfl) (by kernel_rfl) ?_) |(refine WL.block ?_) |(refine WL.ret ?_) |(refine kCond ?_;first |(refine WL.condT' rfl ?_ ?_;(focus (first |(exact decide_eq_true (by assumption))))) |(refine WL.condF' rfl ?_ ?_;(focus (first |(exact decide_eq_false (by assumption))))))) |(refine kDr ?_;first |(refine LDr.nil ?_) |(refine LDr.fl rfl rfl (.ev tT_ok rfl) ?_) |(refine LDr.fl rfl rfl (AnsL.bslF tT_ok rfl rfl rfl rfl rfl rfl rfl rfl rfl) ?_) |(refine kDLoad rfl ?_;first |(refine LDr.fl rfl rfl (AnsL.loadH tT_ok 0 hh rfl rfl rfl rfl) ?_)) |(refine LDr.eff rfl rfl rfl ?_)) |(refine lthen_n ?_) |(refine lthen_r ?_) |(refine lblock_r ?_) |(refine LPost.r1 (r := .tmp 6) (.inl rfl) (Res1.tmp rfl) ?_) |(refine And.intro ?_ ?_) |(exact StsL.nil) |(refine StsL.cons ?_ ?_) |(refine StL.fl rfl rfl (.ev tT_ok rfl)) |(refine StL.fl rfl rfl (AnsL.loadH tT_ok 0 hh rfl rfl rfl rfl)) |(refine StL.fl rfl rfl (AnsL.loadH tT_ok 1 hh rfl rfl rfl rfl))
   refine AppC.fin ?_ hh (by (repeat' first |(exact Sel.nil) |(exact Sel.refl _) |(refine' Sel.p ?_ ?_;rotate_left 1;(focus (((repeat' first |(exact Pick.here) |(refine' Pick.there ?_));done)))));all_goals (repeat' first |(exact Sel.refl _) |(refine Sel.drop ?_)))
   simp [sgn,nameT,tkV,Token.toV,List.append_assoc]
 rw [if_neg k3] at hb ⊢
 by_cases k9:e.kind=9
 · rw [if_pos k9] at hb ⊢
   have hQ:=hQ' (by have:=g9 k9;omega)
   have hgq:(e.sub.map EE.queryV)[((0:Int)).toNat]?=some (EQ.v (e.sub[0]'(by have:=g9 k9;omega))):=by
     have:=g9 k9
     rw [show ((0:Int)).toNat=0 from rfl,List.getElem?_map,List.getElem?_eq_getElem (by omega)];simp only [Option.map_some,EE.queryV_eq]
   have hqd:(e.sub.map (EE.tkQ all)).getD 0 []=EE.tkQ all (e.sub[0]'(by have:=g9 k9;omega)):=by
     have:=g9 k9
     rw [List.getD_eq_getElem?_getD,List.getElem?_map,List.getElem?_eq_getElem (by omega)];rfl
   rw [hqd] at hb ⊢
   generalize e.sub[0]'(by have:=g9 k9;omega)=q at hQ hgq hb ⊢
   generalize EE.tkQ all q=Q at hQ hb ⊢
   unfold EQ.v at hQ hgq
   simp only [List.length_cons,List.length_append,List.length_nil] at hb
   have hm0:=g9 k9
   repeat' first |(refine kBox ?_ ;first |(refine LOps.boxH hh rfl rfl ?_ ;intro s n hh)) |(refine kBsl ?_ ;refine' LOps.bslH tT_ok rfl rfl rfl rfl rfl rfl rfl rfl hh ?_ ?_ ?_ ;rotate_left 2 ;(focus ((repeat' first |(exact ConsL.pls rfl rfl));done)) ;(focus ((repeat' first |(exact ElsH.of rfl));done)) ;intro s n hh) |(refine kApp ?_ ;first |(refine' LOps.appH tT_ok 1 rfl rfl rfl rfl rfl rfl rfl rfl rfl rfl hh ?_ ?_ (AppB.of ?_ rfl) ?_ ;rotate_left 3 ;(focus (first |(refine' ConsSp.ap ?_;((repeat' first |(exact Pick.here) |(refine' Pick.there ?_));done)) |(apply ConsSp.pl;(focus ((repeat' first |(exact ConsL.pls rfl rfl));done))))) ;(focus ((repeat' first |(exact Elems.of rfl));done)) ;(focus (first | omega |(simp ;omega))) ;intro s hh)) |(refine kCallN 71 ?_ ;first |(refine LOps.accH 0 rfl (hQ _ ?_) rfl ok71 hh rfl rfl ?_ ;(focus (first | assumption | omega |(simp only [List.length_append,List.length_map,List.length_cons,List.length_nil] ;omega))) ;intro s hh)) |(refine kOps ?_;first |(refine LOps.nil ?_) |(refine LOps.ev tT_ok rfl ?_) |(refine kLoad ?_;first |(refine LOps.ans (AnsL.loadH tT_ok 0 hh rfl rfl rfl rfl) ?_)) |(refine kCallN 40 ?_;first |(refine LOps.ans (AnsL.callP rfl rfl rfl (ok40) (specl10Sign_w _ _)) ?_)) |(refine kCallN 72 ?_;first |(refine LOps.ans (AnsL.callP rfl rfl rfl (ok72) (specl10Key_w 19 (by omega) _)) ?_))) |(refine kWL ?_;first |(refine WL.seq ?_) |(refine WL.region (by kernel_rfl) ?_) |(refine WL.drawn (id:=11) [0,5,6,7,8,9,1,2,3,4,10,11] [1,2,4,10,11] [[],[],[1],[1,2],[0,1,2,3],[],[5],[5,6],[5,6,7],[],[0,1,2,3,4,5,6,7,8,9],[0,1,2,3,4,5,6,7,8,9,10]] (by kernel_rfl) (by kernel_rfl) ?_) |(refine WL.block ?_) |(refine WL.ret ?_) |(refine kCond ?_;first |(refine WL.condT' rfl ?_ ?_;(focus (first |(exact decide_eq_true (by assumption))))) |(refine WL.condF' rfl ?_ ?_;(focus (first |(exact decide_eq_false (by assumption))))))) |(refine kDr ?_;first |(refine LDr.nil ?_) |(refine LDr.fl rfl rfl (.ev tT_ok rfl) ?_) |(refine LDr.fl rfl rfl (AnsL.bslF tT_ok rfl rfl rfl rfl rfl rfl rfl rfl rfl) ?_) |(refine kDLoad rfl ?_;first |(refine LDr.fl rfl rfl (AnsL.loadH tT_ok 0 hh rfl rfl rfl rfl) ?_)) |(refine kDIdx rfl ?_;first |(refine LDr.fl rfl rfl (AnsL.idxZ tT_ok rfl rfl rfl rfl rfl ?_ hgq rfl rfl) ?_;(focus (omega)))) |(refine LDr.eff rfl rfl rfl ?_)) |(refine lthen_n ?_) |(refine lthen_r ?_) |(refine lblock_r ?_) |(refine LPost.r1 (r := .tmp 6) (.inl rfl) (Res1.tmp rfl) ?_) |(refine And.intro ?_ ?_) |(exact StsL.nil) |(refine StsL.cons ?_ ?_) |(refine StL.fl rfl rfl (.ev tT_ok rfl)) |(refine StL.fl rfl rfl (AnsL.loadH tT_ok 0 hh rfl rfl rfl rfl)) |(refine StL.fl rfl rfl (AnsL.loadH tT_ok 1 hh rfl rfl rfl rfl)) |(refine StL.fl rfl rfl (AnsL.idxZ tT_ok rfl rfl rfl rfl rfl ?_ hgq rfl rfl);(focus (omega)))
   refine AppC.fin ?_ hh (by (repeat' first |(exact Sel.nil) |(exact Sel.refl _) |(refine' Sel.p ?_ ?_;rotate_left 1;(focus (((repeat' first |(exact Pick.here) |(refine' Pick.there ?_));done)))));all_goals (repeat' first |(exact Sel.refl _) |(refine Sel.drop ?_)))
   simp [sgn,nameT,tkV,Token.toV,List.append_assoc]
 rw [if_neg k9] at hb ⊢
 have hk1:1≤e.kids.length:=g0 k1 k2 k9
 have hK0:=hK 0 hk1
 generalize kidT all e.kind e.op (e.kt all) 0=K0 at hK0 hb ⊢
 by_cases k4:e.kind=4
 · rw [if_pos k4] at hb ⊢
   have hK1:=hK 1 (g4 k4)
   generalize kidT all e.kind e.op (e.kt all) 1=K1 at hK1 hb ⊢
   simp only [List.length_cons,List.length_append] at hb
   repeat' first |(refine kBox ?_ ;first |(refine LOps.boxH hh rfl rfl ?_ ;intro s n hh)) |(refine kApp ?_ ;first |(refine' LOps.appH tT_ok 0 rfl rfl rfl rfl rfl rfl rfl rfl rfl rfl hh ?_ ?_ (AppB.of ?_ rfl) ?_ ;rotate_left 3 ;(focus (first |(apply ConsSp.pl;(focus ((repeat' first |(exact ConsL.pls rfl rfl));done))))) ;(focus ((repeat' first |(exact Elems.of rfl));done)) ;(focus (first | omega |(simp ;omega))) ;intro s hh)) |(refine kCallN 69 ?_ ;first |(refine LOps.accH 1 rfl (hK0 _ ?_) rfl ok69 hh rfl rfl ?_ ;(focus (first | assumption | omega)) ;intro s hh) |(refine LOps.accH 0 rfl (hK1 _ ?_) rfl ok69 hh rfl rfl ?_ ;(focus (first | assumption | omega |(simp only [List.length_append,List.length_map,List.length_cons,List.length_nil] ;omega))) ;intro s hh)) |(refine kOps ?_;first |(refine LOps.nil ?_) |(refine LOps.ev tT_ok rfl ?_) |(refine kLoad ?_;first |(refine LOps.ans (AnsL.loadH tT_ok 0 hh rfl rfl rfl rfl) ?_) |(refine LOps.ans (AnsL.loadH tT_ok 1 hh rfl rfl rfl rfl) ?_)) |(refine kCallN 70 ?_;first |(refine LOps.ans (AnsL.callP rfl rfl rfl (ok70) (specl10Op_w _ _)) ?_))) |(refine kWL ?_;first |(refine WL.seq ?_) |(refine WL.region (by kernel_rfl) ?_) |(refine WL.drawn (id:=16) [0,1,2,6,7,3,4,5,8,9] [3,5,8] [[],[],[1],[1,2],[1,2,3],[0,1,2,3,4],[],[],[0,1,2,3,4,5,6,7],[0,1,2,3,4,5,6,7,8]] (by kernel_rfl) (by kernel_rfl) ?_) |(refine WL.block ?_) |(refine WL.skip ?_) |(refine WL.ret ?_) |(refine kCond ?_;first |(refine WL.condT' rfl ?_ ?_;(focus (first |(exact decide_eq_true (by assumption))))) |(refine WL.condF' rfl ?_ ?_;(focus (first |(exact decide_eq_false (by assumption))))))) |(refine kDr ?_;first |(refine LDr.nil ?_) |(refine LDr.fl rfl rfl (.ev tT_ok rfl) ?_) |(refine LDr.fl rfl rfl (AnsL.bslF tT_ok rfl rfl rfl rfl rfl rfl rfl rfl rfl) ?_) |(refine kDLoad rfl ?_;first |(refine LDr.fl rfl rfl (AnsL.loadH tT_ok 1 hh rfl rfl rfl rfl) ?_)) |(refine LDr.eff rfl rfl rfl ?_)) |(refine lthen_n ?_) |(refine lthen_r ?_) |(refine lblock_n ?_) |(refine lblock_r ?_) |(refine LPost.r1 (r := .tmp 6) (.inl rfl) (Res1.tmp rfl) ?_) |(refine And.intro ?_ ?_) |(exact StsL.nil) |(refine StsL.cons ?_ ?_) |(refine StL.fl rfl rfl (.ev tT_ok rfl)) |(refine StL.fl rfl rfl (AnsL.loadH tT_ok 1 hh rfl rfl rfl rfl))
   refine AppC.fin ?_ hh (by (repeat' first |(exact Sel.nil) |(exact Sel.refl _) |(refine' Sel.p ?_ ?_;rotate_left 1;(focus (((repeat' first |(exact Pick.here) |(refine' Pick.there ?_));done)))));all_goals (repeat' first |(exact Sel.refl _) |(refine Sel.drop ?_)))
   simp [sgn,nameT,tkV,Token.toV,List.append_assoc]
 rw [if_neg k4] at hb ⊢
 generalize notT e.nt=NT at hN hb ⊢
 by_cases k5:e.kind=5
 · rw [if_pos k5] at hb ⊢
   simp only [List.length_cons,List.length_append,List.length_nil] at hb
   repeat' first |(refine kBox ?_ ;first |(refine LOps.boxH hh rfl rfl ?_ ;intro s n hh)) |(refine kApp ?_ ;first |(refine' LOps.appH tT_ok 0 rfl rfl rfl rfl rfl rfl rfl rfl rfl rfl hh ?_ ?_ (AppB.of ?_ rfl) ?_ ;rotate_left 3 ;(focus (first |(apply ConsSp.pl;(focus ((repeat' first |(exact ConsL.pls rfl rfl));done))))) ;(focus ((repeat' first |(exact Elems.of rfl));done)) ;(focus (first | omega |(simp ;omega))) ;intro s hh)) |(refine kCallN 69 ?_ ;first |(refine LOps.accH 1 rfl (hK0 _ ?_) rfl ok69 hh rfl rfl ?_ ;(focus (first | assumption | omega)) ;intro s hh)) |(refine kCallN 73 ?_ ;first |(refine LOps.accH 0 rfl (hN _ ?_) rfl ok73 hh rfl rfl ?_ ;(focus (first | assumption | omega |(simp only [List.length_append,List.length_map,List.length_cons,List.length_nil] ;omega))) ;intro s hh)) |(refine kOps ?_;first |(refine LOps.nil ?_) |(refine LOps.ev tT_ok rfl ?_) |(refine kLoad ?_;first |(refine LOps.ans (AnsL.loadH tT_ok 0 hh rfl rfl rfl rfl) ?_) |(refine LOps.ans (AnsL.loadH tT_ok 1 hh rfl rfl rfl rfl) ?_)) |(refine kCallN 72 ?_;first |(refine LOps.ans (AnsL.callP rfl rfl rfl (ok72) (specl10Key_w 16 (by omega) _)) ?_) |(refine LOps.ans (AnsL.callP rfl rfl rfl (ok72) (specl10Key_w 20 (by omega) _)) ?_))) |(refine kWL ?_;first |(refine WL.seq ?_) |(refine WL.region (by kernel_rfl) ?_) |(refine WL.drawn (id:=18) [0,4,1,2,3,5,6,7,8,9] [1,3,5,6,8] [[],[],[1],[0,1,2],[],[0,1,2,3,4],[0,1,2,3,4,5],[0,1,2,3,4,5,6],[0,1,2,3,4,5,6,7],[0,1,2,3,4,5,6,7,8]] (by kernel_rfl) (by kernel_rfl) ?_) |(refine WL.block ?_) |(refine WL.skip ?_) |(refine WL.ret ?_) |(refine kCond ?_;first |(refine WL.condT' rfl ?_ ?_;(focus (first |(exact decide_eq_true (by assumption))))) |(refine WL.condF' rfl ?_ ?_;(focus (first |(exact decide_eq_false (by assumption))))))) |(refine kDr ?_;first |(refine LDr.nil ?_) |(refine LDr.fl rfl rfl (.ev tT_ok rfl) ?_) |(refine LDr.fl rfl rfl (AnsL.bslF tT_ok rfl rfl rfl rfl rfl rfl rfl rfl rfl) ?_) |(refine kDLoad rfl ?_;first |(refine LDr.fl rfl rfl (AnsL.loadH tT_ok 1 hh rfl rfl rfl rfl) ?_)) |(refine LDr.eff rfl rfl rfl ?_)) |(refine lthen_n ?_) |(refine lthen_r ?_) |(refine lblock_n ?_) |(refine lblock_r ?_) |(refine LPost.r1 (r := .tmp 6) (.inl rfl) (Res1.tmp rfl) ?_) |(refine And.intro ?_ ?_) |(exact StsL.nil) |(refine StsL.cons ?_ ?_) |(refine StL.fl rfl rfl (.ev tT_ok rfl)) |(refine StL.fl rfl rfl (AnsL.loadH tT_ok 1 hh rfl rfl rfl rfl))
   refine AppC.fin ?_ hh (by (repeat' first |(exact Sel.nil) |(exact Sel.refl _) |(refine' Sel.p ?_ ?_;rotate_left 1;(focus (((repeat' first |(exact Pick.here) |(refine' Pick.there ?_));done)))));all_goals (repeat' first |(exact Sel.refl _) |(refine Sel.drop ?_)))
   simp [sgn,nameT,tkV,Token.toV,List.append_assoc]
 rw [if_neg k5] at hb ⊢
 by_cases k6:e.kind=6
 · rw [if_pos k6] at hb ⊢
   have hK1:=hK 1 (by have:=g6 k6;omega)
   generalize kidT all e.kind e.op (e.kt all) 1=K1 at hK1 hb ⊢
   have hK2:=hK 2 (by have:=g6 k6;omega)
   generalize kidT all e.kind e.op (e.kt all) 2=K2 at hK2 hb ⊢
   simp only [List.length_cons,List.length_append,List.length_nil] at hb
   repeat' first |(refine kBox ?_ ;first |(refine LOps.boxH hh rfl rfl ?_ ;intro s n hh)) |(refine kApp ?_ ;first |(refine' LOps.appH tT_ok 0 rfl rfl rfl rfl rfl rfl rfl rfl rfl rfl hh ?_ ?_ (AppB.of ?_ rfl) ?_ ;rotate_left 3 ;(focus (first |(apply ConsSp.pl;(focus ((repeat' first |(exact ConsL.pls rfl rfl));done))))) ;(focus ((repeat' first |(exact Elems.of rfl));done)) ;(focus (first | omega |(simp ;omega))) ;intro s hh)) |(refine kCallN 69 ?_ ;first |(refine LOps.accH 1 rfl (hK0 _ ?_) rfl ok69 hh rfl rfl ?_ ;(focus (first | assumption | omega)) ;intro s hh) |(refine LOps.accH 0 rfl (hK1 _ ?_) rfl ok69 hh rfl rfl ?_ ;(focus (first | assumption | omega |(simp only [List.length_append,List.length_map,List.length_cons,List.length_nil] ;omega))) ;intro s hh) |(refine LOps.accH 0 rfl (hK2 _ ?_) rfl ok69 hh rfl rfl ?_ ;(focus (first | assumption | omega |(simp only [List.length_append,List.length_map,List.length_cons,List.length_nil] ;omega))) ;intro s hh)) |(refine kCallN 73 ?_ ;first |(refine LOps.accH 0 rfl (hN _ ?_) rfl ok73 hh rfl rfl ?_ ;(focus (first | assumption | omega |(simp only [List.length_append,List.length_map,List.length_cons,List.length_nil] ;omega))) ;intro s hh)) |(refine kOps ?_;first |(refine LOps.nil ?_) |(refine LOps.ev tT_ok rfl ?_) |(refine kLoad ?_;first |(refine LOps.ans (AnsL.loadH tT_ok 0 hh rfl rfl rfl rfl) ?_) |(refine LOps.ans (AnsL.loadH tT_ok 1 hh rfl rfl rfl rfl) ?_)) |(refine kCallN 72 ?_;first |(refine LOps.ans (AnsL.callP rfl rfl rfl (ok72) (specl10Key_w 18 (by omega) _)) ?_) |(refine LOps.ans (AnsL.callP rfl rfl rfl (ok72) (specl10Key_w 13 (by omega) _)) ?_))) |(refine kWL ?_;first |(refine WL.seq ?_) |(refine WL.region (by kernel_rfl) ?_) |(refine WL.drawn (id:=20) [0,1,6,7,2,3,4,5,8,9] [2,3,5,8,9] [[],[],[0,1],[0,1,2],[0,1,2,3],[0,1,2,3,4],[],[],[0,1,2,3,4,5,6,7],[0,1,2,3,4,5,6,7,8]] (by kernel_rfl) (by kernel_rfl) ?_) |(refine WL.drawn (id:=21) [0,4,5,1,2,3,6,7] [1,3,6] [[],[],[1],[0,1,2],[],[],[0,1,2,3,4,5],[0,1,2,3,4,5,6]] (by kernel_rfl) (by kernel_rfl) ?_) |(refine WL.block ?_) |(refine WL.skip ?_) |(refine WL.ret ?_) |(refine kCond ?_;first |(refine WL.condT' rfl ?_ ?_;(focus (first |(exact decide_eq_true (by assumption))))) |(refine WL.condF' rfl ?_ ?_;(focus (first |(exact decide_eq_false (by assumption))))))) |(refine kDr ?_;first |(refine LDr.nil ?_) |(refine LDr.fl rfl rfl (.ev tT_ok rfl) ?_) |(refine LDr.fl rfl rfl (AnsL.bslF tT_ok rfl rfl rfl rfl rfl rfl rfl rfl rfl) ?_) |(refine kDLoad rfl ?_;first |(refine LDr.fl rfl rfl (AnsL.loadH tT_ok 1 hh rfl rfl rfl rfl) ?_)) |(refine LDr.eff rfl rfl rfl ?_)) |(refine lthen_n ?_) |(refine lthen_r ?_) |(refine lblock_n ?_) |(refine lblock_r ?_) |(refine LPost.r1 (r := .tmp 6) (.inl rfl) (Res1.tmp rfl) ?_) |(refine And.intro ?_ ?_) |(exact StsL.nil) |(refine StsL.cons ?_ ?_) |(refine StL.fl rfl rfl (.ev tT_ok rfl)) |(refine StL.fl rfl rfl (AnsL.loadH tT_ok 1 hh rfl rfl rfl rfl))
   refine AppC.fin ?_ hh (by (repeat' first |(exact Sel.nil) |(exact Sel.refl _) |(refine' Sel.p ?_ ?_;rotate_left 1;(focus (((repeat' first |(exact Pick.here) |(refine' Pick.there ?_));done)))));all_goals (repeat' first |(exact Sel.refl _) |(refine Sel.drop ?_)))
   simp [sgn,nameT,tkV,Token.toV,List.append_assoc]
 rw [if_neg k6] at hb ⊢
 by_cases k8:e.kind=8
 · rw [if_pos k8] at hb ⊢
   have hQ:=hQ' (by have:=g8 k8;omega)
   have hgq:(e.sub.map EE.queryV)[((0:Int)).toNat]?=some (EQ.v (e.sub[0]'(by have:=g8 k8;omega))):=by
     have:=g8 k8
     rw [show ((0:Int)).toNat=0 from rfl,List.getElem?_map,List.getElem?_eq_getElem (by omega)];simp only [Option.map_some,EE.queryV_eq]
   have hqd:(e.sub.map (EE.tkQ all)).getD 0 []=EE.tkQ all (e.sub[0]'(by have:=g8 k8;omega)):=by
     have:=g8 k8
     rw [List.getD_eq_getElem?_getD,List.getElem?_map,List.getElem?_eq_getElem (by omega)];rfl
   rw [hqd] at hb ⊢
   generalize e.sub[0]'(by have:=g8 k8;omega)=q at hQ hgq hb ⊢
   generalize EE.tkQ all q=Q at hQ hb ⊢
   unfold EQ.v at hQ hgq
   simp only [List.length_cons,List.length_append,List.length_nil] at hb
   have hm0:=g8 k8
   repeat' first |(refine kBox ?_ ;first |(refine LOps.boxH hh rfl rfl ?_ ;intro s n hh)) |(refine kBsl ?_ ;refine' LOps.bslH tT_ok rfl rfl rfl rfl rfl rfl rfl rfl hh ?_ ?_ ?_ ;rotate_left 2 ;(focus ((repeat' first |(exact ConsL.pls rfl rfl));done)) ;(focus ((repeat' first |(exact ElsH.of rfl));done)) ;intro s n hh) |(refine kApp ?_ ;first |(refine' LOps.appH tT_ok 1 rfl rfl rfl rfl rfl rfl rfl rfl rfl rfl hh ?_ ?_ (AppB.of ?_ rfl) ?_ ;rotate_left 3 ;(focus (first |(refine' ConsSp.ap ?_;((repeat' first |(exact Pick.here));done)))) ;(focus ((repeat' first |(exact Elems.of rfl));done)) ;(focus (first | omega |(simp ;omega))) ;intro s hh)) |(refine kCallN 69 ?_ ;first |(refine LOps.accH 1 rfl (hK0 _ ?_) rfl ok69 hh rfl rfl ?_ ;(focus (first | assumption | omega)) ;intro s hh)) |(refine kCallN 73 ?_ ;first |(refine LOps.accH 0 rfl (hN _ ?_) rfl ok73 hh rfl rfl ?_ ;(focus (first | assumption | omega |(simp only [List.length_append,List.length_map,List.length_cons,List.length_nil] ;omega))) ;intro s hh)) |(refine kCallN 71 ?_ ;first |(refine LOps.accH 0 rfl (hQ _ ?_) rfl ok71 hh rfl rfl ?_ ;(focus (first | assumption | omega |(simp only [List.length_append,List.length_map,List.length_cons,List.length_nil] ;omega))) ;intro s hh)) |(refine kOps ?_;first |(refine LOps.nil ?_) |(refine LOps.ev tT_ok rfl ?_) |(refine kLoad ?_;first |(refine LOps.ans (AnsL.loadH tT_ok 0 hh rfl rfl rfl rfl) ?_) |(refine LOps.ans (AnsL.loadH tT_ok 1 hh rfl rfl rfl rfl) ?_)) |(refine kIdx ?_;first |(refine LOps.ans (AnsL.idxZ tT_ok rfl rfl rfl rfl rfl ?_ hgq rfl rfl) ?_;(focus (omega)))) |(refine kCallN 40 ?_;first |(refine LOps.ans (AnsL.callP rfl rfl rfl (ok40) (specl10Sign_w _ _)) ?_)) |(refine kCallN 72 ?_;first |(refine LOps.ans (AnsL.callP rfl rfl rfl (ok72) (specl10Key_w 17 (by omega) _)) ?_))) |(refine kWL ?_;first |(refine WL.seq ?_) |(refine WL.region (by kernel_rfl) ?_) |(refine WL.block ?_) |(refine WL.skip ?_) |(refine WL.ret ?_) |(refine kCond ?_;first |(refine WL.condT' rfl ?_ ?_;(focus (first |(exact decide_eq_true (by assumption))))) |(refine WL.condF' rfl ?_ ?_;(focus (first |(exact decide_eq_false (by assumption))))))) |(refine lthen_n ?_) |(refine lthen_r ?_) |(refine lblock_n ?_) |(refine LPost.r1 (r := .tmp 6) (.inl rfl) (Res1.tmp rfl) ?_)
   refine AppC.fin ?_ hh (by (repeat' first |(exact Sel.nil) |(exact Sel.refl _) |(refine' Sel.p ?_ ?_;rotate_left 1;(focus (((repeat' first |(exact Pick.here) |(refine' Pick.there ?_));done)))));all_goals (repeat' first |(exact Sel.refl _) |(refine Sel.drop ?_)))
   simp [sgn,nameT,tkV,Token.toV,List.append_assoc]
 rw [if_neg k8] at hb ⊢
 unfold inT at hb ⊢
 rw [hkt] at hb ⊢
 have hin:=fun j (h:j+1<e.kids.length)=>in_at (all:=all) (kd:=e.kind) (op:=e.op) (ks:=e.kt all) (j:=j) (by omega)
 rw [hkt] at hin
 generalize (List.range (e.kids.length - 1)).map (fun j=>kidT all e.kind e.op (e.kt all) (j+1))=L at hin hb ⊢
 simp only [List.length_cons,List.length_append,List.length_nil] at hb
 repeat' first |(refine kBox ?_ ;first |(refine LOps.boxH hh rfl rfl ?_ ;intro s n hh)) |(refine kBsl ?_ ;refine' LOps.bslH tT_ok rfl rfl rfl rfl rfl rfl rfl rfl hh ?_ ?_ ?_ ;rotate_left 2 ;(focus ((repeat' first |(exact ConsL.pls rfl rfl));done)) ;(focus ((repeat' first |(exact ElsH.of rfl));done)) ;intro s n hh) |(refine kApp ?_ ;first |(refine' LOps.appH tT_ok 1 rfl rfl rfl rfl rfl rfl rfl rfl rfl rfl hh ?_ ?_ (AppB.of ?_ rfl) ?_ ;rotate_left 3 ;(focus (first |(refine' ConsSp.ap ?_;((repeat' first |(exact Pick.here));done)))) ;(focus ((repeat' first |(exact Elems.of rfl));done)) ;(focus (first | omega |(simp ;omega))) ;intro s hh)) |(refine kCallN 69 ?_ ;first |(refine LOps.accH 1 rfl (hK0 _ ?_) rfl ok69 hh rfl rfl ?_ ;(focus (first | assumption | omega)) ;intro s hh)) |(refine kCallN 73 ?_ ;first |(refine LOps.accH 0 rfl (hN _ ?_) rfl ok73 hh rfl rfl ?_ ;(focus (first | assumption | omega |(simp only [List.length_append,List.length_map,List.length_cons,List.length_nil] ;omega))) ;intro s hh)) |(refine kOps ?_;first |(refine LOps.nil ?_) |(refine LOps.ev tT_ok rfl ?_) |(refine kLoad ?_;first |(refine LOps.ans (AnsL.loadH tT_ok 0 hh rfl rfl rfl rfl) ?_) |(refine LOps.ans (AnsL.loadH tT_ok 1 hh rfl rfl rfl rfl) ?_)) |(refine kCallN 40 ?_;first |(refine LOps.ans (AnsL.callP rfl rfl rfl (ok40) (specl10Sign_w _ _)) ?_)) |(refine kCallN 72 ?_;first |(refine LOps.ans (AnsL.callP rfl rfl rfl (ok72) (specl10Key_w 17 (by omega) _)) ?_))) |(refine kWL ?_;first |(refine WL.seq ?_) |(refine WL.region (by kernel_rfl) ?_) |(refine WL.block ?_) |(refine WL.skip ?_) |(refine kCond ?_;first |(refine WL.condF' rfl ?_ ?_;(focus (first |(exact decide_eq_false (by assumption))))))) |(refine lthen_n ?_) |(refine lblock_n ?_)
 rename_i nb _ _ _ _ _ _ _
 obtain ⟨w4,h4⟩:∃ w4,w4=us++tkV K0++tkV NT++[tokW (keyT 17),tokW (sgn 40)]:=⟨_,rfl⟩
 have l4:w4.length=us.length+K0.length+NT.length+2:=by rw [h4];simp only [List.length_append,List.length_map,List.length_cons,List.length_nil]
 change Hold s s.next (.acc id 3 (us++tkV K0++tkV NT++[tokW (keyT 17),tokW (sgn 40)]) (us++tkV K0++tkV NT++[tokW (keyT 17),tokW (sgn 40)])::_) at hh
 rw [← h4] at hh
 refine WL.loopH (fun y:Nat × List V=>e.kids.length - y.1) (fun y=>[(0,.sl id y.2),(2,.bool all),(4,.ptr nb 0),(7,.int .i64 ((y.1+1:Nat):Int))])
   (fun y => .acc id 3 y.2 y.2 :: .cell nb [.int .i64 e.kind,.int .i64 e.op,.bool e.nt,.int .i64 e.value.kind,.int .i64 e.value.num,.str e.value.text,.str e.qual,.str e.name,.sl 0 (e.kids.map EE.toV),.sl 0 (e.sub.map EE.queryV)]::H) (fun y=>y.2=w4++tkV (sepC L y.1)∧y.1+1≤e.kids.length) (0,w4) ⟨by simp [sepC],by omega⟩ ?_ hh ?_ (fun y s hI hh=>?_)
 · dsimp only
   rw [h4]
   repeat' first | exact SubL.nil |(refine SubL.mk rfl ?_ ?_) | rfl
 · try dsimp only
   (repeat' first |(exact Sel.nil) |(exact Sel.refl _) |(refine' Sel.p ?_ ?_;rotate_left 1;(focus (((repeat' first |(exact Pick.here) |(refine' Pick.there ?_));done)))))
   all_goals (repeat' first |(exact Sel.refl _) |(refine Sel.drop ?_))
 obtain ⟨i,ws⟩:=y
 obtain ⟨hI,hi⟩:=hI
 dsimp only at hI hi hh ⊢
 have hwl:ws.length=w4.length+(sepC L i).length:=by rw [hI,List.length_append,tkV_len]
 rcases Nat.lt_or_ge (i+1) e.kids.length with hlt | hge
 · have hst := sepC_succ L i
   have hmo:=sepC_mono L (show i+1≤e.kids.length - 1 by omega)
   rw [hin i hlt] at hst
   have hKi:=hK (i+1) hlt
   generalize kidT all e.kind e.op (e.kt all) (i+1)=KI at hKi hst
   rcases Nat.eq_zero_or_pos i with h0 | h0
   · rw [if_neg (by omega), List.nil_append] at hst
     rw [hst] at hmo
     simp only [List.length_append,List.length_cons] at hmo
     repeat' first |(refine kCallN 69 ?_ ;first |(refine LOps.accH 0 rfl (hKi _ ?_) rfl ok69 hh rfl rfl ?_ ;(focus (first | assumption | omega)) ;intro s hh)) |(refine kOps ?_;first |(refine LOps.nil ?_) |(refine LOps.ev tT_ok rfl ?_) |(refine kLoad ?_;first |(refine LOps.ans (AnsL.loadH tT_ok 1 hh rfl rfl rfl rfl) ?_)) |(refine kLen ?_;first |(refine LOps.ans (AnsL.lenM tT_ok rfl rfl rfl) ?_)) |(refine kBin ?_;first |(refine LOps.ans (AnsL.add rfl rfl ?_) ?_;(focus (constructor <;> omega))))) |(refine kWL ?_;first |(refine WL.seq ?_) |(refine WL.region (by kernel_rfl) ?_) |(refine WL.block ?_) |(refine WL.skip ?_) |(refine kCond ?_;first |(refine WL.condT' rfl ?_ ?_;(focus (first |(simp only [decide_eq_true_eq,decide_eq_false_iff_not,Bool.not_eq_true',Bool.not_eq_false',Int.ofNat_lt,Int.ofNat_le,Int.ofNat_inj,not_true_eq_false,not_false_eq_true];omega)))) |(refine WL.condF' rfl ?_ ?_;(focus (first |(simp only [decide_eq_true_eq,decide_eq_false_iff_not,Bool.not_eq_true',Bool.not_eq_false',Int.ofNat_lt,Int.ofNat_le,Int.ofNat_inj,not_true_eq_false,not_false_eq_true];omega)))))) |(refine lthen_n ?_) |(refine lblock_n ?_)
     refine' lbackH.of (i+1,_) ?_ hh ?_ ?_ ?_
     rotate_left 1
     · try dsimp only
       repeat' first | exact SubL.nil |(refine SubL.mk rfl ?_ ?_) | rfl |(simp;done) |(simp;omega)
     · dsimp only
       (repeat' first |(exact Sel.nil) |(exact Sel.refl _) |(refine' Sel.p ?_ ?_;rotate_left 1;(focus (((repeat' first |(exact Pick.here) |(refine' Pick.there ?_));done)))))
       all_goals (repeat' first |(exact Sel.refl _) |(refine Sel.drop ?_))
     · exact ⟨by simp [hI,hst,sgn,nameT,keyT,tkV,Token.toV,List.append_assoc],hlt⟩
     · dsimp only;omega
   · rw [if_pos h0] at hst
     rw [hst] at hmo
     simp only [List.length_append,List.length_cons,List.length_nil] at hmo
     repeat' first |(refine kBsl ?_ ;refine' LOps.bslH tT_ok rfl rfl rfl rfl rfl rfl rfl rfl hh ?_ ?_ ?_ ;rotate_left 2 ;(focus ((repeat' first |(exact ConsL.pls rfl rfl));done)) ;(focus ((repeat' first |(exact ElsH.of rfl));done)) ;intro s n hh) |(refine kApp ?_ ;first |(refine' LOps.appH tT_ok 1 rfl rfl rfl rfl rfl rfl rfl rfl rfl rfl hh ?_ ?_ (AppB.of ?_ rfl) ?_ ;rotate_left 3 ;(focus (first |(refine' ConsSp.ap ?_;((repeat' first |(exact Pick.here));done)))) ;(focus ((repeat' first |(exact Elems.of rfl));done)) ;(focus (first | omega |(simp ;omega))) ;intro s hh)) |(refine kCallN 69 ?_ ;first |(refine LOps.accH 0 rfl (hKi _ ?_) rfl ok69 hh rfl rfl ?_ ;(focus (first | assumption | omega |(simp only [List.length_append,List.length_map,List.length_cons,List.length_nil] ;omega))) ;intro s hh)) |(refine kOps ?_;first |(refine LOps.nil ?_) |(refine LOps.ev tT_ok rfl ?_) |(refine kLoad ?_;first |(refine LOps.ans (AnsL.loadH tT_ok 1 hh rfl rfl rfl rfl) ?_)) |(refine kLen ?_;first |(refine LOps.ans (AnsL.lenM tT_ok rfl rfl rfl) ?_)) |(refine kBin ?_;first |(refine LOps.ans (AnsL.add rfl rfl ?_) ?_;(focus (constructor <;> omega)))) |(refine kCallN 40 ?_;first |(refine LOps.ans (AnsL.callP rfl rfl rfl (ok40) (specl10Sign_w _ _)) ?_))) |(refine kWL ?_;first |(refine WL.seq ?_) |(refine WL.region (by kernel_rfl) ?_) |(refine WL.block ?_) |(refine WL.skip ?_) |(refine kCond ?_;first |(refine WL.condT' rfl ?_ ?_;(focus (first |(simp only [decide_eq_true_eq,decide_eq_false_iff_not,Bool.not_eq_true',Bool.not_eq_false',Int.ofNat_lt,Int.ofNat_le,Int.ofNat_inj,not_true_eq_false,not_false_eq_true];omega)))))) |(refine lthen_n ?_) |(refine lblock_n ?_)
     refine' lbackH.of (i+1,_) ?_ hh ?_ ?_ ?_
     rotate_left 1
     · try dsimp only
       repeat' first | exact SubL.nil |(refine SubL.mk rfl ?_ ?_) | rfl |(simp;done) |(simp;omega)
     · dsimp only
       (repeat' first |(exact Sel.nil) |(exact Sel.refl _) |(refine' Sel.p ?_ ?_;rotate_left 1;(focus (((repeat' first |(exact Pick.here) |(refine' Pick.there ?_));done)))))
       all_goals (repeat' first |(exact Sel.refl _) |(refine Sel.drop ?_))
     · exact ⟨by simp [hI,hst,sgn,nameT,keyT,tkV,Token.toV,List.append_assoc],hlt⟩
     · dsimp only;omega
 have e1:i=e.kids.length - 1:=by omega
 subst e1
 repeat' first |(refine kBsl ?_ ;refine' LOps.bslH tT_ok rfl rfl rfl rfl rfl rfl rfl rfl hh ?_ ?_ ?_ ;rotate_left 2 ;(focus ((repeat' first |(exact ConsL.pls rfl rfl));done)) ;(focus ((repeat' first |(exact ElsH.of rfl));done)) ;intro s n hh) |(refine kApp ?_ ;first |(refine' LOps.appH tT_ok 1 rfl rfl rfl rfl rfl rfl rfl rfl rfl rfl hh ?_ ?_ (AppB.of ?_ rfl) ?_ ;rotate_left 3 ;(focus (first |(refine' ConsSp.ap ?_;((repeat' first |(exact Pick.here));done)))) ;(focus ((repeat' first |(exact Elems.of rfl));done)) ;(focus (first | omega |(simp ;omega))) ;intro s hh)) |(refine kOps ?_;first |(refine LOps.nil ?_) |(refine LOps.ev tT_ok rfl ?_) |(refine kLoad ?_;first |(refine LOps.ans (AnsL.loadH tT_ok 1 hh rfl rfl rfl rfl) ?_)) |(refine kLen ?_;first |(refine LOps.ans (AnsL.lenM tT_ok rfl rfl rfl) ?_)) |(refine kCallN 40 ?_;first |(refine LOps.ans (AnsL.callP rfl rfl rfl (ok40) (specl10Sign_w _ _)) ?_))) |(refine kWL ?_;first |(refine WL.seq ?_) |(refine WL.region (by kernel_rfl) ?_) |(refine WL.exit ?_) |(refine WL.ret ?_) |(refine kCond ?_;first |(refine WL.condF' rfl ?_ ?_;(focus (first |(simp only [decide_eq_true_eq,decide_eq_false_iff_not,Bool.not_eq_true',Bool.not_eq_false',Int.ofNat_lt,Int.ofNat_le,Int.ofNat_inj,not_true_eq_false,not_false_eq_true];omega)))))) |(refine lthen_n ?_) |(refine lthen_e ?_) |(refine lblock_e ?_) |(refine lbackH_e ?_) |(refine LPost.r1 (r := .tmp 6) (.inl rfl) (Res1.tmp rfl) ?_)
 refine AppC.fin ?_ hh (by (repeat' first |(exact Sel.nil) |(exact Sel.refl _) |(refine' Sel.p ?_ ?_;rotate_left 1;(focus (((repeat' first |(exact Pick.here) |(refine' Pick.there ?_));done)))));all_goals (repeat' first |(exact Sel.refl _) |(refine Sel.drop ?_)))
 rw [hI,h4]
 simp [sgn,tkV,Token.toV,List.append_assoc]
end Go.Proofs.Ytikghanejpigjaa
