/-
 A row of tokens, turned a little; the rows of tokens that the laws of parentheses draw. Own work; no condition.
-/
import Derived.Test.YtikghanejpigjaaDTok
namespace Go.Proofs.Ytikghanejpigjaa
open Go
set_option linter.unusedSimpArgs false
set_option linter.unusedVariables false
theorem consTk (H:List BE):∀ l:List Token,ConsOL H (l.map Token.toV) (l.map Token.toV) H
 | [] => .nil
 | t::l => .cons (.agg (.cons (.scal rfl) (.cons (.scal rfl) (.cons (.scal rfl) .nil)))) (consTk H l)
theorem plainTk:∀ l:List Token,V.plainL (l.map Token.toV)=true
 | []=>rfl
 | t::l=>by
   have h:=plainTk l
   simp only [List.map_cons,V.plainL,Token.toV,V.plain,V.scal,h,Bool.and_self,Bool.true_and,Bool.and_true]
   try rfl
theorem cvTk:∀ l:List Token,cvL (l.map Token.toV)=0
 | []=>rfl
 | t::l=>by
   have h:=cvTk l
   simp only [List.map_cons,cvL,Token.toV,cv,h]
theorem tokSz3 (l:List Token):∀ x∈l.map Token.toV,x.cells.length=3:=by
 intro x hx
 obtain ⟨y,_,rfl⟩:=List.mem_map.1 hx
 rfl
theorem FinS.sl {s:S} {H H':List BE} {id:Nat} {us:List V} (hp:V.plainL us=true) (hh:Hold s s.next H') (hs:Sel H' H):FinS s (.sl id us) (.sl 0 us) H:=⟨[],hh.sel hs,rfl,fun s' ls _ => .sl (RdL.plain us hp)⟩
theorem Drw.ofS {P:Program} {g:FuncId} {b:V} {args:List V} {α : Type} {f : α → V} {p : α → Prop} (h:∀ (s:S) (H:List BE) (l:Nat) (i h:Int),0≤i→Hold s s.next (.cell l (curC b i h)::H) →
   VCalls P g (.ptr l 0::args) (s.ext []) (fun v t=>∃ (x : α × Int × Int) (s':S),(p x.1∧0≤x.2.1)∧t=s'.ext []∧FinS s' v (f x.1) (.cell l (curC b x.2.1 x.2.2)::H))):Drw P g b args f p:=fun s H l i c hi hh=>by
 refine VCalls.mono (VCalls.frzS (h s H l i c hi hh)) ?_
 rintro v t ⟨x,s',⟨h1,h2⟩,h3,h4,h5⟩
 exact ⟨x.1,s',x.2.1,x.2.2,h1,h3,h2,h4,h5⟩
theorem Tok.unown {s:S} {b:Nat} {H:List BE} {u:V} {x:Token} (h:Hold s b (.own u x.toV::H)):u=tokW x∧Hold s b H:=by
 unfold Token.toV at h
 obtain ⟨vs,rfl,hl⟩:=h.aggOk
 match vs,hl with
 | [v0,v1,v2],_ =>
   obtain ⟨e0,g0⟩:=h.unscal rfl
   obtain ⟨e1,g1⟩:=g0.unscal rfl
   obtain ⟨e2,g2⟩:=g1.unscal rfl
   subst e0 e1 e2
   exact ⟨rfl,g2.drop1⟩
theorem Tok.own {s:S} {b:Nat} {H:List BE} (x:Token) (h:Hold s b H):Hold s b (.own (tokW x) x.toV::H):=h.pack (.agg (.cons (.scal rfl) (.cons (.scal rfl) (.cons (.scal rfl) .nil))))
set_option maxHeartbeats 2000000 in
theorem specl12Turned_d {b:V} (hb:Bytes b) (t0:Token) (ts:List Token) (hl:ts.length≤1000000):Drw Try.prog 41 b [.sl 0 ((t0::ts).map Token.toV)] (fun us:List Token => .sl 0 (us.map Token.toV)) (fun us=>us.length≤ts.length+2):=by
 refine Drw.ofS fun s H l i h hi hh=>?_
 have hml:((t0::ts).map Token.toV).length=ts.length+1:=by simp
 refine LCalls.body0 Try.func41 rfl (by kernel_rfl) ?_
 repeat' first |(refine kBsl ?_ ;first |(refine LOps.ans (AnsL.bslN tT_ok rfl rfl rfl rfl rfl) ?_)) |(refine kCallN 26 ?_ ;first |(refine LOps.drawH 0 rfl rfl ok26 hh rfl rfl ?_ (specl1Below_d hb (by omega)) ?_ ;(focus (first | assumption | omega)) ;intro s x i h hq hi hh ;try dsimp only) |(refine LOps.drawH 1 rfl rfl ok26 hh rfl rfl ?_ (specl1Below_d hb (by omega)) ?_ ;(focus (first | assumption | omega)) ;intro s x i h hq hi hh ;try dsimp only)) |(refine kApp ?_ ;refine LOps.appS tT_ok rfl rfl rfl rfl rfl rfl rfl rfl hh (consTk _ _) (Elems.map fun _=>rfl) (AppB.of ?_ rfl) ?_ ;(focus (omega)) ;intro s c n hh) |(refine kOps ?_;first |(refine LOps.nil ?_) |(refine LOps.ev tT_ok rfl ?_) |(refine kBin ?_;first |(refine LOps.ans (AnsL.add rfl rfl ?_) ?_;(focus (constructor <;> omega))))) |(refine kWL ?_;first |(refine WL.seq ?_) |(refine WL.region (by kernel_rfl) ?_) |(refine WL.block ?_)) |(refine lthen_n ?_)
 rename_i sA hhA sB k i1 h1 hk hi1 hh1
 clear hhA hh1
 obtain ⟨k,rfl⟩:=Int.eq_ofNat_of_zero_le hk.1
 have hLl:(t0::ts).length=ts.length+1:=List.length_cons
 generalize (t0::ts)=L at hml hLl hk hh ⊢
 have hk2:k≤L.length:=by omega
 have hk3:k≤(L.map Token.toV).length:=by omega
 have y1:(L.map Token.toV).take k=(L.take k).map Token.toV:=(List.map_take ..).symm
 have y2:(L.map Token.toV).drop k=(L.drop k).map Token.toV:=(List.map_drop ..).symm
 have y3:(L.map Token.toV).drop (k+1)=(L.drop (k+1)).map Token.toV:=(List.map_drop ..).symm
 have a1:((L.take k).map Token.toV).length=k:=by rw [List.length_map,List.length_take];omega
 have a2:((L.drop k).map Token.toV).length=L.length - k:=by rw [List.length_map,List.length_drop]
 have a3:((L.drop (k+1)).map Token.toV).length=L.length - (k+1):=by rw [List.length_map,List.length_drop]
 have p1:=plainTk (L.take k)
 have p2:=plainTk (L.drop k)
 have p3:=plainTk (L.drop (k+1))
 have c1:=cvTk (L.take k)
 have c2:=cvTk (L.drop k)
 have c3:=cvTk (L.drop (k+1))
 by_cases x0:x=0
 · refine WL.frz 5 rfl (hh.sel (.cons 1 rfl rfl (Sel.refl _))) (fun s hh => ?_)
   repeat' first |(refine kOps ?_;first |(refine LOps.nil ?_) |(refine LOps.ev tT_ok rfl ?_) |(refine kSlc ?_;first |(refine LOps.ans (AnsL.slcU (n:=k) tT_ok rfl rfl rfl rfl rfl hk3 y1) ?_))) |(refine kWL ?_;first |(refine WL.seq ?_) |(refine WL.region (by kernel_rfl) ?_) |(refine WL.ret ?_) |(refine kCond ?_;first |(refine WL.condT' rfl ?_ ?_;(focus (first |(exact decide_eq_true (by assumption))))))) |(refine lthen_n ?_) |(refine lthen_r ?_) |(refine lblock_r ?_) |(refine LPost.r1 (r := .tmp 4) (.inl rfl) (Res1.tmp rfl) ?_)
   refine ⟨(L.take k,_,_),_,⟨?_,?_⟩,rfl,FinS.sl p1 hh (by (repeat' first |(exact Sel.nil) |(exact Sel.refl _) |(refine' Sel.p ?_ ?_;rotate_left 1;(focus (((repeat' first |(exact Pick.here) |(refine' Pick.there ?_));done)))));all_goals (repeat' first |(exact Sel.refl _) |(refine Sel.drop ?_)))⟩
   · dsimp only;rw [List.length_take];omega
   · assumption
 by_cases x1:x=1
 · skip
   repeat' first |(refine kApp ?_ ;first |(refine' LOps.appH tT_ok 0 rfl rfl rfl rfl rfl rfl rfl rfl rfl rfl hh ?_ ?_ (AppB.of ?_ rfl) ?_ ;rotate_left 3 ;(focus (first |(apply ConsSp.pl;(focus ((repeat' first |(exact ConsL.pls (by assumption) (by assumption)));done))))) ;(focus ((repeat' first |(exact Elems.map fun _=>rfl));done)) ;(focus (first | omega |(simp ;omega))) ;intro s hh) |(refine' LOps.appH tT_ok 1 rfl rfl rfl rfl rfl rfl rfl rfl rfl rfl hh ?_ ?_ (AppB.of ?_ rfl) ?_ ;rotate_left 3 ;(focus (first |(apply ConsSp.pl;(focus ((repeat' first |(exact ConsL.nil) |(exact Cons.pl rfl rfl) |(refine' ConsL.cons ?_ ?_));done))))) ;(focus ((repeat' first |(exact Elems.of rfl));done)) ;(focus (first | omega |(simp ;omega))) ;intro s hh) |(refine' LOps.appZ tT_ok rfl rfl rfl rfl rfl rfl rfl rfl hh ?_ ?_ (AppB.of ?_ rfl) ?_ ;rotate_left 3 ;(focus (first |(apply ConsSp.pl;(focus ((repeat' first |(exact ConsL.pls (by assumption) (by assumption)));done))))) ;(focus ((repeat' first |(exact Elems.map fun _=>rfl));done)) ;(focus (first | omega)) ;intro s n hh)) |(refine kCallN 75 ?_ ;first |(refine LOps.drawH 1 rfl rfl ok75 hh rfl rfl ?_ (specl3Bent_d hb) ?_ ;(focus (first | assumption | omega)) ;intro s x i h hq hi hh ;try dsimp only)) |(refine kOps ?_;first |(refine LOps.nil ?_) |(refine LOps.ev tT_ok rfl ?_)) |(refine kWL ?_;first |(refine WL.seq ?_) |(refine WL.region (by kernel_rfl) ?_) |(refine WL.drawn (id:=7) [0,1,2,3,5,9,10,11,4,6,7,8,12,13] [4,6,8,12] [[],[],[],[1,2],[0,1,2,3],[],[0,1,2,3,4,5],[0,1,2,3,4,5,6],[0,1,2,3,4,5,6,7],[],[],[9,10],[0,1,2,3,4,5,6,7,8,9,10,11],[0,1,2,3,4,5,6,7,8,9,10,11,12]] (by kernel_rfl) (by kernel_rfl) ?_) |(refine WL.ret ?_) |(refine kCond ?_;first |(refine WL.condT' rfl ?_ ?_;(focus (first |(exact decide_eq_true (by assumption))))) |(refine WL.condF' rfl ?_ ?_;(focus (first |(exact decide_eq_false (by assumption))))))) |(refine kDr ?_;first |(refine LDr.nil ?_) |(refine LDr.fl rfl rfl (.ev tT_ok rfl) ?_) |(refine LDr.fl rfl rfl (AnsL.bslF tT_ok rfl rfl rfl rfl rfl rfl rfl rfl rfl) ?_) |(refine LDr.fl rfl rfl (AnsL.bslZ tT_ok rfl rfl rfl rfl rfl) ?_) |(refine kDSlc rfl ?_;first |(refine LDr.fl rfl rfl (AnsL.slcU (n:=k) tT_ok rfl rfl rfl rfl rfl hk3 y1) ?_) |(refine LDr.fl rfl rfl (AnsL.slcD (n:=k) tT_ok rfl rfl rfl rfl rfl rfl hk3 (tokSz3 L) y2) ?_)) |(refine LDr.eff rfl rfl rfl ?_)) |(refine lthen_n ?_) |(refine lblock_n ?_) |(refine LPost.r1 (r := .tmp 4) (.inl rfl) (Res1.tmp rfl) ?_) |(refine And.intro ?_ ?_) |(exact StsL.nil) |(refine StsL.cons ?_ ?_) |(refine StL.fl rfl rfl (.ev tT_ok rfl)) |(refine StL.fl rfl rfl (AnsL.slcD (n:=k) tT_ok rfl rfl rfl rfl rfl rfl hk3 (tokSz3 L) y2))
   rename Token=>tk
   have e1:(L.take k).map Token.toV++[tokW tk]++(L.drop k).map Token.toV=(L.take k++[tk]++L.drop k).map Token.toV:=by rw [List.map_append,List.map_append];rfl
   rw [e1] at hh ⊢
   refine ⟨(L.take k++[tk]++L.drop k,_,_),_,⟨?_,?_⟩,rfl,FinS.sl (plainTk _) hh (by (repeat' first |(exact Sel.nil) |(exact Sel.refl _) |(refine' Sel.p ?_ ?_;rotate_left 1;(focus (((repeat' first |(exact Pick.here) |(refine' Pick.there ?_));done)))));all_goals (repeat' first |(exact Sel.refl _) |(refine Sel.drop ?_)))⟩
   · dsimp only;simp only [List.length_append,List.length_take,List.length_drop,List.length_cons,List.length_nil];omega
   · assumption
 by_cases x2:x=2
 · by_cases hkl : k < L.length
   · have hk4 : k + 1 ≤ (L.map Token.toV).length := by omega
     have hm1:(k:Int)+1=((k+1:Nat):Int):=by omega
     repeat' first |(refine kApp ?_ ;first |(refine' LOps.appH tT_ok 0 rfl rfl rfl rfl rfl rfl rfl rfl rfl rfl hh ?_ ?_ (AppB.of ?_ rfl) ?_ ;rotate_left 3 ;(focus (first |(apply ConsSp.pl;(focus ((repeat' first |(exact ConsL.pls (by assumption) (by assumption)));done))))) ;(focus ((repeat' first |(exact Elems.map fun _=>rfl));done)) ;(focus (first | omega)) ;intro s hh) |(refine' LOps.appZ tT_ok rfl rfl rfl rfl rfl rfl rfl rfl hh ?_ ?_ (AppB.of ?_ rfl) ?_ ;rotate_left 3 ;(focus (first |(apply ConsSp.pl;(focus ((repeat' first |(exact ConsL.pls (by assumption) (by assumption)));done))))) ;(focus ((repeat' first |(exact Elems.map fun _=>rfl));done)) ;(focus (first | omega)) ;intro s n hh)) |(refine kOps ?_;first |(refine LOps.nil ?_) |(refine LOps.ev tT_ok rfl ?_)) |(refine kWL ?_;first |(refine WL.seq ?_) |(refine WL.region (by kernel_rfl) ?_) |(refine WL.drawn (id:=10) [0,1,2,3,5,6,7,8,4,9,10] [4,9] [[],[],[],[1,2],[0,1,2,3],[],[],[6],[5,6,7],[0,1,2,3,4,5,6,7,8],[0,1,2,3,4,5,6,7,8,9]] (by kernel_rfl) (by kernel_rfl) ?_) |(refine WL.ret ?_) |(refine kCond ?_;first |(refine WL.condT' rfl ?_ ?_;(focus (first |(exact decide_eq_true (by assumption)) |(simp <;> omega)))) |(refine WL.condF' rfl ?_ ?_;(focus (first |(exact decide_eq_false (by assumption))))))) |(refine kDr ?_;first |(refine LDr.nil ?_) |(refine LDr.fl rfl rfl (.ev tT_ok rfl) ?_) |(refine LDr.fl rfl rfl (AnsL.bslZ tT_ok rfl rfl rfl rfl rfl) ?_) |(refine kDBin rfl ?_;first |(refine LDr.fl rfl rfl (AnsL.add rfl rfl ?_) ?_;(focus (constructor <;> omega)))) |(refine kDSlc rfl ?_;first |(refine LDr.fl rfl rfl (AnsL.slcU (n:=k) tT_ok rfl rfl rfl rfl rfl hk3 y1) ?_) |(refine LDr.fl rfl rfl (AnsL.slcD (n:=k+1) tT_ok rfl rfl rfl rfl rfl hm1 hk4 (tokSz3 L) y3) ?_)) |(refine LDr.eff rfl rfl rfl ?_)) |(refine lthen_n ?_) |(refine lblock_n ?_) |(refine LPost.r1 (r := .tmp 4) (.inl rfl) (Res1.tmp rfl) ?_) |(refine And.intro ?_ ?_) |(exact StsL.nil) |(refine StsL.cons ?_ ?_) |(refine StL.fl rfl rfl (.ev tT_ok rfl)) |(refine StL.fl rfl rfl (AnsL.slcD (n:=k+1) tT_ok rfl rfl rfl rfl rfl hm1 hk4 (tokSz3 L) y3)) |(refine StL.fl rfl rfl (AnsL.add rfl rfl ?_);(focus (constructor <;> omega)))
     have e1:(L.take k).map Token.toV++(L.drop (k+1)).map Token.toV=(L.take k++L.drop (k+1)).map Token.toV:=by rw [List.map_append]
     rw [e1] at hh ⊢
     refine ⟨(L.take k++L.drop (k+1),_,_),_,⟨?_,?_⟩,rfl,FinS.sl (plainTk _) hh (by (repeat' first |(exact Sel.nil) |(exact Sel.refl _) |(refine' Sel.p ?_ ?_;rotate_left 1;(focus (((repeat' first |(exact Pick.here) |(refine' Pick.there ?_));done)))));all_goals (repeat' first |(exact Sel.refl _) |(refine Sel.drop ?_)))⟩
     · dsimp only;simp only [List.length_append,List.length_take,List.length_drop];omega
     · assumption
   · skip
     repeat' first |(refine kOps ?_;first |(refine LOps.nil ?_) |(refine LOps.ev tT_ok rfl ?_)) |(refine kWL ?_;first |(refine WL.seq ?_) |(refine WL.region (by kernel_rfl) ?_) |(refine WL.skip ?_) |(refine WL.ret ?_) |(refine kCond ?_;first |(refine WL.condT' rfl ?_ ?_;(focus (first |(exact decide_eq_true (by assumption))))) |(refine WL.condF' rfl ?_ ?_;(focus (first |(exact decide_eq_false (by assumption)) |(simp <;> omega)))))) |(refine lthen_n ?_) |(refine lblock_n ?_) |(refine LPost.r1 (r := .tmp 4) (.inl rfl) (Res1.tmp rfl) ?_)
     refine ⟨(L,_,_),_,⟨?_,?_⟩,rfl,FinS.ofO hh (by ((repeat' first |(exact ConsOL.nil) |(exact ConsO.scal rfl) |(exact ConsO.slm0) |(refine' ConsO.op ?_;((repeat' first |(exact Pick.here) |(refine' Pick.there ?_));done)) |(refine' ConsOL.cons ?_ ?_) |(refine' ConsO.agg ?_));done)) (by (repeat' first |(exact Sel.nil) |(exact Sel.refl _) |(refine' Sel.p ?_ ?_;rotate_left 1;(focus (((repeat' first |(exact Pick.here) |(refine' Pick.there ?_));done)))));all_goals (repeat' first |(exact Sel.refl _) |(refine Sel.drop ?_)))⟩
     · dsimp only;omega
     · assumption
 by_cases x3:x=3
 · by_cases hkl : k < L.length
   · have hsp:L.map Token.toV=(L.take k).map Token.toV++L[k].toV::(L.drop (k+1)).map Token.toV:=by
       rw [← List.map_cons, ← List.map_append,List.getElem_cons_drop,List.take_append_drop]
     have hkm:k<(L.map Token.toV).length:=by omega
     have hh2:=hh.sel (.cons 1 rfl rfl (Sel.refl _))
     generalize (L.map Token.toV).length=m at hh2 hkm hml ⊢
     have hmm:m=L.length:=by omega
     rw [hsp] at hh2
     have hcl:∀ x∈(L.take k).map Token.toV++L[k].toV::(L.drop (k+1)).map Token.toV,x.cells.length=3:=by rw [← hsp];exact tokSz3 L
     obtain ⟨A,Z,u,rest,hA,hr,hnc,hn,hh3⟩:=Hold.openO 3 hh2 hcl
     obtain ⟨rfl,hh4⟩:=Tok.unown (hh3.sel (.cons 1 rfl rfl (Sel.refl _)))
     rw [a1] at hA
     clear hh hh2 hh3
     replace hh:=hh4
     repeat' first |(refine kCallN 75 ?_ ;first |(refine LOps.drawH 3 rfl rfl ok75 hh rfl rfl ?_ (specl3Bent_d hb) ?_ ;(focus (first | assumption | omega)) ;intro s x i h hq hi hh ;try dsimp only)) |(refine kStore ?_ ;first |(refine LOps.storeHE (q:=k*3) tT_ok 1 0 hh rfl rfl hA rfl rfl rfl rfl rfl rfl rfl rfl rfl ?_ ;intro s hh)) |(refine kOps ?_;first |(refine LOps.nil ?_) |(refine LOps.ev tT_ok rfl ?_) |(refine kIdx ?_;first |(refine LOps.ans (AnsL.idxO tT_ok rfl rfl rfl rfl rfl hkm) ?_))) |(refine kWL ?_;first |(refine WL.seq ?_) |(refine WL.region (by kernel_rfl) ?_) |(refine WL.ret ?_) |(refine kCond ?_;first |(refine WL.condT' rfl ?_ ?_;(focus (first |(exact decide_eq_true (by assumption)) |(simp <;> omega)))) |(refine WL.condF' rfl ?_ ?_;(focus (first |(exact decide_eq_false (by assumption))))))) |(refine lthen_n ?_) |(refine lblock_n ?_) |(refine LPost.r1 (r := .tmp 4) (.inl rfl) (Res1.tmp rfl) ?_)
     have hnl:(L.take k).map Token.toV++x.toV::(L.drop (k+1)).map Token.toV=(L.set k x).map Token.toV:=by
       rw [List.set_eq_take_append_cons_drop,if_pos hkl,List.map_append,List.map_cons]
     have h5:=(Tok.own x hh).sel (.cons 2 rfl rfl (.cons 0 rfl rfl (.cons 1 rfl rfl (.cons 1 rfl rfl (Sel.refl _)))))
     have h6:=Hold.shutO (d:=x.toV) 3 h5 rfl (by rw [hnl];exact tokSz3 _) hr hnc (by rw [hnl,List.length_map,List.length_set];exact hmm)
     rw [hnl] at h6
     refine ⟨(L.set k x,_,_),_,⟨?_,?_⟩,rfl,FinS.ofO h6 (by ((repeat' first |(exact ConsOL.nil) |(exact ConsO.scal rfl) |(exact ConsO.slm0) |(refine' ConsO.op ?_;((repeat' first |(exact Pick.here) |(refine' Pick.there ?_));done)) |(refine' ConsOL.cons ?_ ?_) |(refine' ConsO.agg ?_));done)) (by (repeat' first |(exact Sel.nil) |(exact Sel.refl _) |(refine' Sel.p ?_ ?_;rotate_left 1;(focus (((repeat' first |(exact Pick.here) |(refine' Pick.there ?_));done)))));all_goals (repeat' first |(exact Sel.refl _) |(refine Sel.drop ?_)))⟩
     · dsimp only;rw [List.length_set];omega
     · assumption
   · skip
     repeat' first |(refine kOps ?_;first |(refine LOps.nil ?_) |(refine LOps.ev tT_ok rfl ?_)) |(refine kWL ?_;first |(refine WL.seq ?_) |(refine WL.region (by kernel_rfl) ?_) |(refine WL.skip ?_) |(refine WL.ret ?_) |(refine kCond ?_;first |(refine WL.condT' rfl ?_ ?_;(focus (first |(exact decide_eq_true (by assumption))))) |(refine WL.condF' rfl ?_ ?_;(focus (first |(exact decide_eq_false (by assumption)) |(simp <;> omega)))))) |(refine lthen_n ?_) |(refine lblock_n ?_) |(refine LPost.r1 (r := .tmp 4) (.inl rfl) (Res1.tmp rfl) ?_)
     refine ⟨(L,_,_),_,⟨?_,?_⟩,rfl,FinS.ofO hh (by ((repeat' first |(exact ConsOL.nil) |(exact ConsO.scal rfl) |(exact ConsO.slm0) |(refine' ConsO.op ?_;((repeat' first |(exact Pick.here) |(refine' Pick.there ?_));done)) |(refine' ConsOL.cons ?_ ?_) |(refine' ConsO.agg ?_));done)) (by (repeat' first |(exact Sel.nil) |(exact Sel.refl _) |(refine' Sel.p ?_ ?_;rotate_left 1;(focus (((repeat' first |(exact Pick.here) |(refine' Pick.there ?_));done)))));all_goals (repeat' first |(exact Sel.refl _) |(refine Sel.drop ?_)))⟩
     · dsimp only;omega
     · assumption
 · skip
   repeat' first |(refine kOps ?_;first |(refine LOps.nil ?_) |(refine LOps.ev tT_ok rfl ?_)) |(refine kWL ?_;first |(refine WL.seq ?_) |(refine WL.region (by kernel_rfl) ?_) |(refine WL.skip ?_) |(refine WL.ret ?_) |(refine kCond ?_;first |(refine WL.condF' rfl ?_ ?_;(focus (first |(exact decide_eq_false (by assumption))))))) |(refine lthen_n ?_) |(refine lblock_n ?_) |(refine LPost.r1 (r := .tmp 4) (.inl rfl) (Res1.tmp rfl) ?_)
   refine ⟨(L,_,_),_,⟨?_,?_⟩,rfl,FinS.ofO hh (by ((repeat' first |(exact ConsOL.nil) |(exact ConsO.scal rfl) |(exact ConsO.slm0) |(refine' ConsO.op ?_;((repeat' first |(exact Pick.here) |(refine' Pick.there ?_));done)) |(refine' ConsOL.cons ?_ ?_) |(refine' ConsO.agg ?_));done)) (by (repeat' first |(exact Sel.nil) |(exact Sel.refl _) |(refine' Sel.p ?_ ?_;rotate_left 1;(focus (((repeat' first |(exact Pick.here) |(refine' Pick.there ?_));done)))));all_goals (repeat' first |(exact Sel.refl _) |(refine Sel.drop ?_)))⟩
   · dsimp only;omega
   · assumption
end Go.Proofs.Ytikghanejpigjaa
