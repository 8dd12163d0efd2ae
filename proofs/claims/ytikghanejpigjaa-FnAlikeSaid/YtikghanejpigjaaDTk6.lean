/-
 The tokens of a query, walked. Own work; no condition.
-/
import Derived.Test.YtikghanejpigjaaDTk5
namespace Go.Proofs.Ytikghanejpigjaa
open Go
set_option linter.unusedSimpArgs false
set_option linter.unusedVariables false
theorem limT_eq (n:Int):limT n=if 0≤n then [keyT 11,⟨3,Lib.itoa n,0⟩] else []:=rfl
set_option maxHeartbeats 2000000 in
theorem specl10Query_c (all:Bool) (q:EQ) (us:List V) (hpi:∀ x∈q.items,x.star=false→PrC all x.e) (hps:∀ x∈q.src,∀ e∈x.on,PrC all e) (hpw:∀ e∈q.wher,PrC all e) (hpo:∀ x∈q.order,PrC all x.1)
   (hb:us.length+(EE.tkQ all q).length≤4000000000) (hw:wgt q.v≤1000000000):AppC Try.prog 71 (fun o=>[o,q.v,.bool all]) 3 us (us++tkV (EE.tkQ all q)):=by
 intro s H id hh
 have hlen:q.items.length≤1000000000∧q.src.length≤1000000000∧q.order.length≤1000000000:=by
   have h1:=EQ.wgt_eq q
   have h2:=wgt_len EItem.v q.items
   have h3:=wgt_len ESrc.v q.src
   have h4:=wgt_len EE.sv q.order
   omega
 rw [EE.tkQ_eq,asmQ] at hb ⊢
 have hiT:(q.items.map fun x=>itemT x.star x.qual x.als (x.e.tk all)).length=q.items.length:=List.length_map ..
 have hsT:(q.src.map fun x=>srcT x.table x.als (x.on.map (EE.tk all))).length=q.src.length:=List.length_map ..
 have hoT:(q.order.map fun x=>(x.1.tk all,x.2)).length=q.order.length:=List.length_map ..
 have hF:=fun us=>specl10From_c all q.src (by omega) us hps _ rfl
 have hW:=fun us=>specl10Where_c all q.wher us hpw
 obtain ⟨I,hIe⟩:∃ I,I=q.items.map fun x=>itemT x.star x.qual x.als (x.e.tk all):=⟨_,rfl⟩
 obtain ⟨O,hOe⟩:∃ O,O=q.order.map fun x=>(x.1.tk all,x.2):=⟨_,rfl⟩
 rw [← hIe, ← hOe] at hb ⊢
 rw [← hIe] at hiT
 rw [← hOe] at hoT
 rw [hiT,hoT] at hb ⊢
 generalize fromT (q.src.map fun x=>srcT x.table x.als (x.on.map (EE.tk all))) (q.src.map fun x=>srcT x.table x.als (x.on.map (EE.tk all))).length=F at hF hb ⊢
 generalize whereT (q.wher.map (EE.tk all))=W at hW hb ⊢
 simp only [List.length_cons,List.length_append] at hb
 unfold EQ.v
 refine LCalls.body0 Try.func71 rfl (by kernel_rfl) ?_
 repeat' first |(refine kBox ?_ ;first |(refine LOps.boxH hh rfl rfl ?_ ;intro s n hh)) |(refine kBsl ?_ ;refine' LOps.bslH tT_ok rfl rfl rfl rfl rfl rfl rfl rfl hh ?_ ?_ ?_ ;rotate_left 2 ;(focus ((repeat' first |(exact ConsL.pls rfl rfl));done)) ;(focus ((repeat' first |(exact ElsH.of rfl));done)) ;intro s n hh) |(refine kApp ?_ ;first |(refine' LOps.appH tT_ok 2 rfl rfl rfl rfl rfl rfl rfl rfl rfl rfl hh ?_ ?_ (AppB.of ?_ rfl) ?_ ;rotate_left 3 ;(focus (first |(refine' ConsSp.ap ?_;((repeat' first |(exact Pick.here));done)))) ;(focus ((repeat' first |(exact Elems.of rfl));done)) ;(focus (first | omega |(simp ;omega))) ;intro s hh)) |(refine kOps ?_;first |(refine LOps.nil ?_) |(refine LOps.ev tT_ok rfl ?_) |(refine kLoad ?_;first |(refine LOps.ans (AnsL.loadH tT_ok 1 hh rfl rfl rfl rfl) ?_)) |(refine kCallN 72 ?_;first |(refine LOps.ans (AnsL.callP rfl rfl rfl (ok72) (specl10Key_w 1 (by omega) _)) ?_))) |(refine kWL ?_;first |(refine WL.seq ?_) |(refine WL.region (by kernel_rfl) ?_)) |(refine lthen_n ?_)
 rename_i nb _ _ _
 refine WL.cutH (fun y:List V=>[(0,.sl id y),(2,.bool all),(4,.ptr nb 0)]) (fun y => .acc id 3 y y :: .cell nb [.bool q.distinct,.sl 0 (q.items.map EItem.v),.sl 0 (q.src.map ESrc.v),.sl 0 (q.wher.map EE.toV),.sl 0 (q.order.map EE.sv),.int .i64 q.limit]::H) (fun y=>y=us++tkV (keyT 1::if q.distinct then [keyT 2] else [])) ?_ (fun w1 s h1 hh=>?_)
 · generalize q.distinct = ds at hh ⊢
   cases ds
   · skip
     repeat' first |(refine kWL ?_;first |(refine WL.skip ?_) |(refine kCond ?_;first |(refine WL.condF rfl ?_)))
     refine' CutH.of _ ?_ hh ?_ ?_
     rotate_left 1
     · try dsimp only
       repeat' first | exact SubL.nil |(refine SubL.mk rfl ?_ ?_) | rfl |(simp;done) |(simp;omega)
     · try dsimp only
       (repeat' first |(exact Sel.nil) |(exact Sel.refl _) |(refine' Sel.p ?_ ?_;rotate_left 1;(focus (((repeat' first |(exact Pick.here) |(refine' Pick.there ?_));done)))))
       all_goals (repeat' first |(exact Sel.refl _) |(refine Sel.drop ?_))
     · simp [sgn,nameT,keyT,tkV,Token.toV,List.append_assoc]
   · skip
     repeat' first |(refine kBsl ?_ ;refine' LOps.bslH tT_ok rfl rfl rfl rfl rfl rfl rfl rfl hh ?_ ?_ ?_ ;rotate_left 2 ;(focus ((repeat' first |(exact ConsL.pls rfl rfl));done)) ;(focus ((repeat' first |(exact ElsH.of rfl));done)) ;intro s n hh) |(refine kApp ?_ ;first |(refine' LOps.appH tT_ok 1 rfl rfl rfl rfl rfl rfl rfl rfl rfl rfl hh ?_ ?_ (AppB.of ?_ rfl) ?_ ;rotate_left 3 ;(focus (first |(refine' ConsSp.ap ?_;((repeat' first |(exact Pick.here));done)))) ;(focus ((repeat' first |(exact Elems.of rfl));done)) ;(focus (first | omega |(simp ;omega))) ;intro s hh)) |(refine kOps ?_;first |(refine LOps.nil ?_) |(refine LOps.ev tT_ok rfl ?_) |(refine kCallN 72 ?_;first |(refine LOps.ans (AnsL.callP rfl rfl rfl (ok72) (specl10Key_w 2 (by omega) _)) ?_))) |(refine kWL ?_;first |(refine WL.region (by kernel_rfl) ?_) |(refine kCond ?_;first |(refine WL.condT rfl ?_)))
     refine' CutH.of _ ?_ hh ?_ ?_
     rotate_left 1
     · try dsimp only
       repeat' first | exact SubL.nil |(refine SubL.mk rfl ?_ ?_) | rfl |(simp;done) |(simp;omega)
     · try dsimp only
       (repeat' first |(exact Sel.nil) |(exact Sel.refl _) |(refine' Sel.p ?_ ?_;rotate_left 1;(focus (((repeat' first |(exact Pick.here) |(refine' Pick.there ?_));done)))))
       all_goals (repeat' first |(exact Sel.refl _) |(refine Sel.drop ?_))
     · simp [sgn,nameT,keyT,tkV,Token.toV,List.append_assoc]
 have l1:w1.length=us.length+(1+(if q.distinct then [keyT 2] else []).length):=by rw [h1,List.length_append,tkV_len,List.length_cons];omega
 try dsimp only at hh ⊢
 generalize (if q.distinct then [keyT 2] else [])=D at h1 l1 hb ⊢
 repeat' first |(refine kOps ?_;first |(refine LOps.nil ?_) |(refine LOps.ev tT_ok rfl ?_)) |(refine kWL ?_;first |(refine WL.seq ?_) |(refine WL.region (by kernel_rfl) ?_) |(refine WL.block ?_)) |(refine lthen_n ?_)
 refine WL.loopH (fun y:Nat × List V=>q.items.length - y.1) (fun y=>[(0,.sl id y.2),(2,.bool all),(4,.ptr nb 0),(7,.int .i64 (y.1:Int))])
   (fun y => .acc id 3 y.2 y.2 :: .cell nb [.bool q.distinct,.sl 0 (q.items.map EItem.v),.sl 0 (q.src.map ESrc.v),.sl 0 (q.wher.map EE.toV),.sl 0 (q.order.map EE.sv),.int .i64 q.limit]::H) (fun y=>y.2=w1++tkV (sepC I y.1)∧y.1≤q.items.length) (0,w1) ⟨by simp [sepC],Nat.zero_le _⟩ ⟨rfl,rfl,rfl,rfl,trivial⟩ hh (Sel.refl _) (fun y s hI hh=>?_)
 obtain ⟨i,ws⟩:=y
 obtain ⟨hI,hi⟩:=hI
 dsimp only at hI hi hh ⊢
 have hwl:ws.length=w1.length+(sepC I i).length:=by rw [hI,List.length_append,tkV_len]
 have hml:(q.items.map EItem.v).length=q.items.length:=List.length_map ..
 rcases Nat.lt_or_ge i q.items.length with hlt | hge
 · have hga : (q.items.map EItem.v)[i]? = some (EItem.v q.items[i]) := by simp [hlt]
   have hgL:I.getD i []=itemT q.items[i].star q.items[i].qual q.items[i].als (q.items[i].e.tk all):=by simp [hIe,hlt]
   have hst:=sepC_succ I i
   have hmo:=sepC_mono I (show i+1≤q.items.length by omega)
   rw [hgL] at hst
   have hIt:=fun us=>specl10Item_c all q.items[i] us (hpi _ (List.getElem_mem hlt))
   generalize q.items[i]=x at hga hst hIt
   generalize itemT x.star x.qual x.als (x.e.tk all)=ts at hst hIt
   unfold EItem.v at hga hIt
   rcases Nat.eq_zero_or_pos i with h0 | h0
   · rw [if_neg (by omega), List.nil_append] at hst
     rw [hst] at hmo
     simp only [List.length_append,List.length_cons] at hmo
     repeat' first |(refine kCallN 100 ?_ ;first |(refine LOps.accH 0 rfl (hIt _ ?_) rfl ok100 hh rfl rfl ?_ ;(focus (first | assumption | omega)) ;intro s hh)) |(refine kOps ?_;first |(refine LOps.nil ?_) |(refine LOps.ev tT_ok rfl ?_) |(refine kLoad ?_;first |(refine LOps.ans (AnsL.loadH tT_ok 1 hh rfl rfl rfl rfl) ?_)) |(refine kLen ?_;first |(refine LOps.ans (AnsL.lenM tT_ok rfl rfl rfl) ?_)) |(refine kBin ?_;first |(refine LOps.ans (AnsL.add rfl rfl ?_) ?_;(focus (constructor <;> omega)))) |(refine kIdx ?_;first |(refine LOps.ans (AnsL.idx tT_ok rfl rfl rfl rfl rfl hga rfl rfl) ?_))) |(refine kWL ?_;first |(refine WL.seq ?_) |(refine WL.region (by kernel_rfl) ?_) |(refine WL.block ?_) |(refine WL.skip ?_) |(refine kCond ?_;first |(refine WL.condT' rfl ?_ ?_;(focus (first |(simp only [decide_eq_true_eq,decide_eq_false_iff_not,Bool.not_eq_true',Bool.not_eq_false',Int.ofNat_lt,Int.ofNat_le,Int.ofNat_inj,not_true_eq_false,not_false_eq_true];omega)))) |(refine WL.condF' rfl ?_ ?_;(focus (first |(simp only [decide_eq_true_eq,decide_eq_false_iff_not,Bool.not_eq_true',Bool.not_eq_false',Int.ofNat_lt,Int.ofNat_le,Int.ofNat_inj,not_true_eq_false,not_false_eq_true];omega)))))) |(refine lthen_n ?_) |(refine lblock_n ?_)
     refine' lbackH.of (i+1,_) ?_ hh ?_ ?_ ?_
     rotate_left 1
     · try dsimp only
       repeat' first | exact SubL.nil |(refine SubL.mk rfl ?_ ?_) | rfl |(simp;done) |(simp;omega)
     · dsimp only
       (repeat' first |(exact Sel.nil) |(exact Sel.refl _) |(refine' Sel.p ?_ ?_;rotate_left 1;(focus (((repeat' first |(exact Pick.here) |(refine' Pick.there ?_));done)))))
       all_goals (repeat' first |(exact Sel.refl _) |(refine Sel.drop ?_))
     · exact ⟨by simp [hI,hst,sgn,nameT,keyT,tkV,Token.toV,List.append_assoc],hlt⟩
     · dsimp only;omega
   · rw [if_pos h0] at hst
     rw [hst] at hmo
     simp only [List.length_append,List.length_cons] at hmo
     repeat' first |(refine kBsl ?_ ;refine' LOps.bslH tT_ok rfl rfl rfl rfl rfl rfl rfl rfl hh ?_ ?_ ?_ ;rotate_left 2 ;(focus ((repeat' first |(exact ConsL.pls rfl rfl));done)) ;(focus ((repeat' first |(exact ElsH.of rfl));done)) ;intro s n hh) |(refine kApp ?_ ;first |(refine' LOps.appH tT_ok 1 rfl rfl rfl rfl rfl rfl rfl rfl rfl rfl hh ?_ ?_ (AppB.of ?_ rfl) ?_ ;rotate_left 3 ;(focus (first |(refine' ConsSp.ap ?_;((repeat' first |(exact Pick.here));done)))) ;(focus ((repeat' first |(exact Elems.of rfl));done)) ;(focus (first | omega |(simp ;omega))) ;intro s hh)) |(refine kCallN 100 ?_ ;first |(refine LOps.accH 0 rfl (hIt _ ?_) rfl ok100 hh rfl rfl ?_ ;(focus (first | assumption | omega |(simp only [List.length_append,List.length_map,List.length_cons,List.length_nil] ;omega))) ;intro s hh)) |(refine kOps ?_;first |(refine LOps.nil ?_) |(refine LOps.ev tT_ok rfl ?_) |(refine kLoad ?_;first |(refine LOps.ans (AnsL.loadH tT_ok 1 hh rfl rfl rfl rfl) ?_)) |(refine kLen ?_;first |(refine LOps.ans (AnsL.lenM tT_ok rfl rfl rfl) ?_)) |(refine kBin ?_;first |(refine LOps.ans (AnsL.add rfl rfl ?_) ?_;(focus (constructor <;> omega)))) |(refine kIdx ?_;first |(refine LOps.ans (AnsL.idx tT_ok rfl rfl rfl rfl rfl hga rfl rfl) ?_)) |(refine kCallN 40 ?_;first |(refine LOps.ans (AnsL.callP rfl rfl rfl (ok40) (specl10Sign_w _ _)) ?_))) |(refine kWL ?_;first |(refine WL.seq ?_) |(refine WL.region (by kernel_rfl) ?_) |(refine WL.block ?_) |(refine WL.skip ?_) |(refine kCond ?_;first |(refine WL.condT' rfl ?_ ?_;(focus (first |(simp only [decide_eq_true_eq,decide_eq_false_iff_not,Bool.not_eq_true',Bool.not_eq_false',Int.ofNat_lt,Int.ofNat_le,Int.ofNat_inj,not_true_eq_false,not_false_eq_true];omega)))))) |(refine lthen_n ?_) |(refine lblock_n ?_)
     refine' lbackH.of (i+1,_) ?_ hh ?_ ?_ ?_
     rotate_left 1
     · try dsimp only
       repeat' first | exact SubL.nil |(refine SubL.mk rfl ?_ ?_) | rfl |(simp;done) |(simp;omega)
     · dsimp only
       (repeat' first |(exact Sel.nil) |(exact Sel.refl _) |(refine' Sel.p ?_ ?_;rotate_left 1;(focus (((repeat' first |(exact Pick.here) |(refine' Pick.there ?_));done)))))
       all_goals (repeat' first |(exact Sel.refl _) |(refine Sel.drop ?_))
     · exact ⟨by simp [hI,hst,sgn,nameT,keyT,tkV,Token.toV,List.append_assoc],hlt⟩
     · dsimp only;omega
 have e:i=q.items.length:=by omega
 subst e
 have l2:=hwl
 obtain ⟨w2,h2e⟩:∃ w2,w2=ws:=⟨_,rfl⟩
 have h2:=hI
 rw [← h2e] at h2 l2
 repeat' first |(refine kApp ?_ ;first |(refine' LOps.appH tT_ok 0 rfl rfl rfl rfl rfl rfl rfl rfl rfl rfl hh ?_ ?_ (AppB.of ?_ rfl) ?_ ;rotate_left 3 ;(focus (first |(apply ConsSp.pl;(focus ((repeat' first |(exact ConsL.pls rfl rfl));done))))) ;(focus ((repeat' first |(exact Elems.of rfl));done)) ;(focus (first | omega |(simp ;omega))) ;intro s hh)) |(refine kCallN 101 ?_ ;first |(refine LOps.accH 0 rfl (hF _ ?_) rfl ok101 hh rfl rfl ?_ ;(focus (first | assumption | omega |(simp only [List.length_append,List.length_map,List.length_cons,List.length_nil] ;omega))) ;intro s hh)) |(refine kCallN 102 ?_ ;first |(refine LOps.accH 0 rfl (hW _ ?_) rfl ok102 hh rfl rfl ?_ ;(focus (first | assumption | omega |(simp only [List.length_append,List.length_map,List.length_cons,List.length_nil] ;omega))) ;intro s hh)) |(refine kOps ?_;first |(refine LOps.nil ?_) |(refine LOps.ev tT_ok rfl ?_) |(refine kLoad ?_;first |(refine LOps.ans (AnsL.loadH tT_ok 1 hh rfl rfl rfl rfl) ?_)) |(refine kLen ?_;first |(refine LOps.ans (AnsL.lenM tT_ok rfl rfl rfl) ?_)) |(refine kCallN 72 ?_;first |(refine LOps.ans (AnsL.callP rfl rfl rfl (ok72) (specl10Key_w 3 (by omega) _)) ?_))) |(refine kWL ?_;first |(refine WL.seq ?_) |(refine WL.region (by kernel_rfl) ?_) |(refine WL.drawn (id:=10) [0,4,5,6,1,2,3,7,8] [1,3,7,8] [[],[],[1],[0,1,2],[],[4],[],[0,1,2,3,4,5,6],[0,1,2,3,4,5,6,7]] (by kernel_rfl) (by kernel_rfl) ?_) |(refine WL.block ?_) |(refine WL.exit ?_) |(refine kCond ?_;first |(refine WL.condF' rfl ?_ ?_;(focus (first |(simp only [decide_eq_true_eq,decide_eq_false_iff_not,Bool.not_eq_true',Bool.not_eq_false',Int.ofNat_lt,Int.ofNat_le,Int.ofNat_inj,not_true_eq_false,not_false_eq_true];omega)))))) |(refine kDr ?_;first |(refine LDr.nil ?_) |(refine LDr.fl rfl rfl (.ev tT_ok rfl) ?_) |(refine LDr.fl rfl rfl (AnsL.bslF tT_ok rfl rfl rfl rfl rfl rfl rfl rfl rfl) ?_) |(refine kDLoad rfl ?_;first |(refine LDr.fl rfl rfl (AnsL.loadH tT_ok 1 hh rfl rfl rfl rfl) ?_)) |(refine LDr.eff rfl rfl rfl ?_)) |(refine lthen_n ?_) |(refine lthen_e ?_) |(refine lblock_e ?_) |(refine lbackH_e ?_) |(refine And.intro ?_ ?_) |(exact StsL.nil) |(refine StsL.cons ?_ ?_) |(refine StL.fl rfl rfl (.ev tT_ok rfl)) |(refine StL.fl rfl rfl (AnsL.loadH tT_ok 1 hh rfl rfl rfl rfl))
 obtain ⟨w4,h4⟩:∃ w4,w4=ws++[tokW (keyT 3)]++tkV F++tkV W:=⟨_,rfl⟩
 have l4:w4.length=w2.length+1+F.length+W.length:=by rw [h4,h2e];simp only [List.length_append,List.length_map,List.length_cons,List.length_nil]
 rw [← h4] at hh
 rw [← h2e] at h4
 clear hI hwl
 refine WL.loopH (fun y:Nat × List V=>q.order.length - y.1) (fun y=>[(0,.sl id y.2),(2,.bool all),(4,.ptr nb 0),(8,.int .i64 (y.1:Int))])
   (fun y => .acc id 3 y.2 y.2 :: .cell nb [.bool q.distinct,.sl 0 (q.items.map EItem.v),.sl 0 (q.src.map ESrc.v),.sl 0 (q.wher.map EE.toV),.sl 0 (q.order.map EE.sv),.int .i64 q.limit]::H) (fun y=>y.2=w4++tkV (ordT O y.1)∧y.1≤q.order.length) (0,w4) ⟨by simp [ordT],Nat.zero_le _⟩ ?_ hh ?_ (fun y s hI hh=>?_)
 · dsimp only
   rw [h4,h2e]
   repeat' first | exact SubL.nil |(refine SubL.mk rfl ?_ ?_) | rfl
 · try dsimp only
   (repeat' first |(exact Sel.nil) |(exact Sel.refl _) |(refine' Sel.p ?_ ?_;rotate_left 1;(focus (((repeat' first |(exact Pick.here) |(refine' Pick.there ?_));done)))))
   all_goals (repeat' first |(exact Sel.refl _) |(refine Sel.drop ?_))
 obtain ⟨i,ws⟩:=y
 obtain ⟨hI,hi⟩:=hI
 dsimp only at hI hi hh ⊢
 have hwl:ws.length=w4.length+(ordT O i).length:=by rw [hI,List.length_append,tkV_len]
 have hml:(q.order.map EE.sv).length=q.order.length:=List.length_map ..
 rcases Nat.lt_or_ge i q.order.length with hlt | hge
 · have hga : (q.order.map EE.sv)[i]? = some (EE.sv q.order[i]) := by simp [hlt]
   have hgL:O.getD i ([],false)=(q.order[i].1.tk all,q.order[i].2):=by simp [hOe,hlt]
   have hst:=ordT_succ O i
   have hmo:=ordT_mono O (show i+1≤q.order.length by omega)
   rw [hgL] at hst
   have hP:=hpo _ (List.getElem_mem hlt)
   unfold PrC at hP
   generalize q.order[i]=x at hga hst hP
   obtain ⟨e,ds⟩:=x
   dsimp only at hst hP
   generalize e.tk all=ts at hst hP
   unfold EE.sv at hga
   unfold EE.v at hP
   dsimp only at hga
   rcases Nat.eq_zero_or_pos i with h0 | h0
   · rw [if_pos h0] at hst
     rw [hst] at hmo
     simp only [List.length_append,List.length_cons,List.length_nil] at hmo
     cases ds
     all_goals
       simp at hst hmo
       repeat' first |(refine kBsl ?_ ;refine' LOps.bslH tT_ok rfl rfl rfl rfl rfl rfl rfl rfl hh ?_ ?_ ?_ ;rotate_left 2 ;(focus ((repeat' first |(exact ConsL.pls rfl rfl));done)) ;(focus ((repeat' first |(exact ElsH.of rfl));done)) ;intro s n hh) |(refine kApp ?_ ;first |(refine' LOps.appH tT_ok 1 rfl rfl rfl rfl rfl rfl rfl rfl rfl rfl hh ?_ ?_ (AppB.of ?_ rfl) ?_ ;rotate_left 3 ;(focus (first |(refine' ConsSp.ap ?_;((repeat' first |(exact Pick.here));done)))) ;(focus ((repeat' first |(exact Elems.of rfl));done)) ;(focus (first | omega |(simp ;omega))) ;intro s hh)) |(refine kCallN 37 ?_ ;first |(refine LOps.accH 0 rfl (hP _ ?_) rfl ok37 hh rfl rfl ?_ ;(focus (first | assumption | omega |(simp only [List.length_append,List.length_map,List.length_cons,List.length_nil] ;omega))) ;intro s hh)) |(refine kOps ?_;first |(refine LOps.nil ?_) |(refine LOps.ev tT_ok rfl ?_) |(refine kLoad ?_;first |(refine LOps.ans (AnsL.loadH tT_ok 1 hh rfl rfl rfl rfl) ?_)) |(refine kLen ?_;first |(refine LOps.ans (AnsL.lenM tT_ok rfl rfl rfl) ?_)) |(refine kBin ?_;first |(refine LOps.ans (AnsL.add rfl rfl ?_) ?_;(focus (constructor <;> omega)))) |(refine kIdx ?_;first |(refine LOps.ans (AnsL.idx tT_ok rfl rfl rfl rfl rfl hga rfl rfl) ?_)) |(refine kCallN 72 ?_;first |(refine LOps.ans (AnsL.callP rfl rfl rfl (ok72) (specl10Key_w 7 (by omega) _)) ?_) |(refine LOps.ans (AnsL.callP rfl rfl rfl (ok72) (specl10Key_w 8 (by omega) _)) ?_) |(refine LOps.ans (AnsL.callP rfl rfl rfl (ok72) (specl10Key_w 10 (by omega) _)) ?_))) |(refine kWL ?_;first |(refine WL.seq ?_) |(refine WL.region (by kernel_rfl) ?_) |(refine WL.block ?_) |(refine WL.skip ?_) |(refine kCond ?_;first |(refine WL.condT rfl ?_) |(refine WL.condF rfl ?_) |(refine WL.condT' rfl ?_ ?_;(focus (first |(simp only [decide_eq_true_eq,decide_eq_false_iff_not,Bool.not_eq_true',Bool.not_eq_false',Int.ofNat_lt,Int.ofNat_le,Int.ofNat_inj,not_true_eq_false,not_false_eq_true];omega)))))) |(refine lthen_n ?_) |(refine lblock_n ?_)
       refine' lbackH.of (i+1,_) ?_ hh ?_ ?_ ?_
       rotate_left 1
       · try dsimp only
         repeat' first | exact SubL.nil |(refine SubL.mk rfl ?_ ?_) | rfl |(simp;done) |(simp;omega)
       · dsimp only
         (repeat' first |(exact Sel.nil) |(exact Sel.refl _) |(refine' Sel.p ?_ ?_;rotate_left 1;(focus (((repeat' first |(exact Pick.here) |(refine' Pick.there ?_));done)))))
         all_goals (repeat' first |(exact Sel.refl _) |(refine Sel.drop ?_))
       · exact ⟨by simp [hI,hst,sgn,nameT,keyT,tkV,Token.toV,List.append_assoc],hlt⟩
       · dsimp only;omega
   · rw [if_neg (by omega)] at hst
     rw [hst] at hmo
     simp only [List.length_append,List.length_cons,List.length_nil] at hmo
     cases ds
     all_goals
       simp at hst hmo
       repeat' first |(refine kBsl ?_ ;refine' LOps.bslH tT_ok rfl rfl rfl rfl rfl rfl rfl rfl hh ?_ ?_ ?_ ;rotate_left 2 ;(focus ((repeat' first |(exact ConsL.pls rfl rfl));done)) ;(focus ((repeat' first |(exact ElsH.of rfl));done)) ;intro s n hh) |(refine kApp ?_ ;first |(refine' LOps.appH tT_ok 1 rfl rfl rfl rfl rfl rfl rfl rfl rfl rfl hh ?_ ?_ (AppB.of ?_ rfl) ?_ ;rotate_left 3 ;(focus (first |(refine' ConsSp.ap ?_;((repeat' first |(exact Pick.here));done)))) ;(focus ((repeat' first |(exact Elems.of rfl));done)) ;(focus (first | omega |(simp ;omega))) ;intro s hh)) |(refine kCallN 37 ?_ ;first |(refine LOps.accH 0 rfl (hP _ ?_) rfl ok37 hh rfl rfl ?_ ;(focus (first | assumption | omega |(simp only [List.length_append,List.length_map,List.length_cons,List.length_nil] ;omega))) ;intro s hh)) |(refine kOps ?_;first |(refine LOps.nil ?_) |(refine LOps.ev tT_ok rfl ?_) |(refine kLoad ?_;first |(refine LOps.ans (AnsL.loadH tT_ok 1 hh rfl rfl rfl rfl) ?_)) |(refine kLen ?_;first |(refine LOps.ans (AnsL.lenM tT_ok rfl rfl rfl) ?_)) |(refine kBin ?_;first |(refine LOps.ans (AnsL.add rfl rfl ?_) ?_;(focus (constructor <;> omega)))) |(refine kIdx ?_;first |(refine LOps.ans (AnsL.idx tT_ok rfl rfl rfl rfl rfl hga rfl rfl) ?_)) |(refine kCallN 40 ?_;first |(refine LOps.ans (AnsL.callP rfl rfl rfl (ok40) (specl10Sign_w _ _)) ?_)) |(refine kCallN 72 ?_;first |(refine LOps.ans (AnsL.callP rfl rfl rfl (ok72) (specl10Key_w 10 (by omega) _)) ?_))) |(refine kWL ?_;first |(refine WL.seq ?_) |(refine WL.region (by kernel_rfl) ?_) |(refine WL.block ?_) |(refine WL.skip ?_) |(refine kCond ?_;first |(refine WL.condT rfl ?_) |(refine WL.condF rfl ?_) |(refine WL.condT' rfl ?_ ?_;(focus (first |(simp only [decide_eq_true_eq,decide_eq_false_iff_not,Bool.not_eq_true',Bool.not_eq_false',Int.ofNat_lt,Int.ofNat_le,Int.ofNat_inj,not_true_eq_false,not_false_eq_true];omega)))) |(refine WL.condF' rfl ?_ ?_;(focus (first |(simp only [decide_eq_true_eq,decide_eq_false_iff_not,Bool.not_eq_true',Bool.not_eq_false',Int.ofNat_lt,Int.ofNat_le,Int.ofNat_inj,not_true_eq_false,not_false_eq_true];omega)))))) |(refine lthen_n ?_) |(refine lblock_n ?_)
       refine' lbackH.of (i+1,_) ?_ hh ?_ ?_ ?_
       rotate_left 1
       · try dsimp only
         repeat' first | exact SubL.nil |(refine SubL.mk rfl ?_ ?_) | rfl |(simp;done) |(simp;omega)
       · dsimp only
         (repeat' first |(exact Sel.nil) |(exact Sel.refl _) |(refine' Sel.p ?_ ?_;rotate_left 1;(focus (((repeat' first |(exact Pick.here) |(refine' Pick.there ?_));done)))))
         all_goals (repeat' first |(exact Sel.refl _) |(refine Sel.drop ?_))
       · exact ⟨by simp [hI,hst,sgn,nameT,keyT,tkV,Token.toV,List.append_assoc],hlt⟩
       · dsimp only;omega
 have e:i=q.order.length:=by omega
 subst e
 rw [limT_eq] at hb ⊢
 by_cases hlm:0≤q.limit
 · rw [if_pos hlm] at hb ⊢
   simp only [List.length_cons,List.length_nil] at hb
   repeat' first |(refine kApp ?_ ;first |(refine' LOps.appH tT_ok 0 rfl rfl rfl rfl rfl rfl rfl rfl rfl rfl hh ?_ ?_ (AppB.of ?_ rfl) ?_ ;rotate_left 3 ;(focus (first |(apply ConsSp.pl;(focus ((repeat' first |(exact ConsL.pls rfl rfl));done))))) ;(focus ((repeat' first |(exact Elems.of rfl));done)) ;(focus (first | omega |(simp ;omega))) ;intro s hh)) |(refine kOps ?_;first |(refine LOps.nil ?_) |(refine LOps.ev tT_ok rfl ?_) |(refine kLoad ?_;first |(refine LOps.ans (AnsL.loadH tT_ok 1 hh rfl rfl rfl rfl) ?_)) |(refine kLen ?_;first |(refine LOps.ans (AnsL.lenM tT_ok rfl rfl rfl) ?_)) |(refine kCallN 72 ?_;first |(refine LOps.ans (AnsL.callP rfl rfl rfl (ok72) (specl10Key_w 11 (by omega) _)) ?_)) |(refine kCallN 96 ?_;first |(refine LOps.ans (AnsL.callP rfl rfl rfl (ok96) (specDigits_v _ _)) ?_))) |(refine kWL ?_;first |(refine WL.seq ?_) |(refine WL.region (by kernel_rfl) ?_) |(refine WL.drawn (id:=22) [0,2,3,1,4,5,6,7,8] [1,4,7,8] [[],[],[],[2],[1,2,3],[1,2,3,4],[1,2,3,4,5],[0,1,2,3,4,5,6],[0,1,2,3,4,5,6,7]] (by kernel_rfl) (by kernel_rfl) ?_) |(refine WL.exit ?_) |(refine WL.ret ?_) |(refine kCond ?_;first |(refine WL.condT' rfl ?_ ?_;(focus (first |(exact decide_eq_true (by assumption))))) |(refine WL.condF' rfl ?_ ?_;(focus (first |(simp only [decide_eq_true_eq,decide_eq_false_iff_not,Bool.not_eq_true',Bool.not_eq_false',Int.ofNat_lt,Int.ofNat_le,Int.ofNat_inj,not_true_eq_false,not_false_eq_true];omega)))))) |(refine kDr ?_;first |(refine LDr.nil ?_) |(refine LDr.fl rfl rfl (.ev tT_ok rfl) ?_) |(refine LDr.fl rfl rfl (AnsL.bslF tT_ok rfl rfl rfl rfl rfl rfl rfl rfl rfl) ?_) |(refine kDLoad rfl ?_;first |(refine LDr.fl rfl rfl (AnsL.loadH tT_ok 1 hh rfl rfl rfl rfl) ?_)) |(refine LDr.eff rfl rfl rfl ?_)) |(refine lthen_n ?_) |(refine lthen_e ?_) |(refine lblock_e ?_) |(refine lbackH_e ?_) |(refine LPost.r1 (r := .tmp 6) (.inl rfl) (Res1.tmp rfl) ?_) |(refine And.intro ?_ ?_) |(exact StsL.nil) |(refine StsL.cons ?_ ?_) |(refine StL.fl rfl rfl (.ev tT_ok rfl)) |(refine StL.fl rfl rfl (AnsL.loadH tT_ok 1 hh rfl rfl rfl rfl))
   refine AppC.fin ?_ hh (by (repeat' first |(exact Sel.nil) |(exact Sel.refl _) |(refine' Sel.p ?_ ?_;rotate_left 1;(focus (((repeat' first |(exact Pick.here) |(refine' Pick.there ?_));done)))));all_goals (repeat' first |(exact Sel.refl _) |(refine Sel.drop ?_)))
   rw [hI,h4,h2,h1]
   simp [tkV,Token.toV,List.append_assoc]
 · rw [if_neg hlm] at hb ⊢
   repeat' first |(refine kOps ?_;first |(refine LOps.nil ?_) |(refine LOps.ev tT_ok rfl ?_) |(refine kLoad ?_;first |(refine LOps.ans (AnsL.loadH tT_ok 1 hh rfl rfl rfl rfl) ?_)) |(refine kLen ?_;first |(refine LOps.ans (AnsL.lenM tT_ok rfl rfl rfl) ?_))) |(refine kWL ?_;first |(refine WL.seq ?_) |(refine WL.region (by kernel_rfl) ?_) |(refine WL.exit ?_) |(refine WL.skip ?_) |(refine WL.ret ?_) |(refine kCond ?_;first |(refine WL.condF' rfl ?_ ?_;(focus (first |(exact decide_eq_false (by assumption)) |(simp only [decide_eq_true_eq,decide_eq_false_iff_not,Bool.not_eq_true',Bool.not_eq_false',Int.ofNat_lt,Int.ofNat_le,Int.ofNat_inj,not_true_eq_false,not_false_eq_true];omega)))))) |(refine lthen_n ?_) |(refine lthen_e ?_) |(refine lblock_e ?_) |(refine lbackH_e ?_) |(refine LPost.r1 (r := .tmp 6) (.inl rfl) (Res1.tmp rfl) ?_)
   refine AppC.fin ?_ hh (by (repeat' first |(exact Sel.nil) |(exact Sel.refl _) |(refine' Sel.p ?_ ?_;rotate_left 1;(focus (((repeat' first |(exact Pick.here) |(refine' Pick.there ?_));done)))));all_goals (repeat' first |(exact Sel.refl _) |(refine Sel.drop ?_)))
   rw [hI,h4,h2,h1]
   simp [tkV,Token.toV,List.append_assoc]
end Go.Proofs.Ytikghanejpigjaa
