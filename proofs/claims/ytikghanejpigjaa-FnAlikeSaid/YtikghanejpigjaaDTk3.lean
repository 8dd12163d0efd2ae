/-
 The tokens of a query's tree, walked: kids, names, items, conditions. Own work; no condition.
-/
import Derived.Test.YtikghanejpigjaaDTk2
namespace Go.Proofs.Ytikghanejpigjaa
open Go
set_option linter.unusedSimpArgs false
set_option linter.unusedVariables false
abbrev tokW (t:Token):V := .agg [.int .i64 t.kind,.str t.text,.int .i64 t.pos]
theorem specl10Key_w (k:Nat) (hk:1≤k∧k≤28) (s:S):VCalls Try.prog 72 [.int .i64 (k:Int)] s (fun v s'=>v=tokW (keyT k)∧s'=s):=specl10Key_v k hk s
theorem specl10Sign_w (t:List UInt8) (s:S):VCalls Try.prog 40 [.str t] s (fun v s'=>v=tokW ⟨5,t,0⟩∧s'=s):=specl10Sign_v t s
theorem specl10Name_w (t:List UInt8) (s:S):VCalls Try.prog 68 [.str t] s (fun v s'=>v=tokW (nameT t)∧s'=s):=specl10Name_v t s
theorem specl10Op_w (op:Int) (s:S):VCalls Try.prog 70 [.int .i64 op] s (fun v s'=>v=tokW (opT op)∧s'=s):=specl10Op_v op s
theorem specl10Lit_w (x:Val) (s:S):VCalls Try.prog 67 [.agg [.int .i64 x.kind,.int .i64 x.num,.str x.text]] s (fun v s'=>v=tokW (litT x)∧s'=s):=specl10Lit_v x s
theorem AppC.fin {s:S} {id sz:Nat} {us ws:List V} {H H':List BE} (e:us=ws) (hh:Hold s s.next H') (hs:Sel H' (.acc id sz us us::H)):∃ s':S,V.sl id us = .sl id ws∧s.ext []=s'.ext []∧Hold s' s'.next (.acc id sz ws ws::H):=by
 subst e
 exact ⟨s,rfl,rfl,hh.sel hs⟩
abbrev tkV (l:List Token):List V:=l.map Token.toV
def PrC (all:Bool) (e:EE):Prop:=∀ us:List V,us.length+(e.tk all).length≤4000000000→AppC Try.prog 37 (fun o=>[o,e.v,.bool all]) 3 us (us++tkV (e.tk all))
theorem EE.kt_len (all:Bool) (e:EE):(e.kt all).length=e.kids.length:=List.length_map ..
theorem EE.kt_at {all:Bool} {e:EE} {k:Nat} (hk:k<e.kids.length):(e.kt all).getD k (9,[])=(lvl e.kids[k].kind e.kids[k].op,e.kids[k].tk all):=by
 simp [EE.kt,hk]
theorem kidT_eq {all:Bool} {e:EE} {k:Nat} (hk:k<e.kids.length):kidT all e.kind e.op (e.kt all) k=wrapT all (need e.kind e.op e.kids.length k) (lvl e.kids[k].kind e.kids[k].op,e.kids[k].tk all):=by
 rw [kidT,EE.kt_len,EE.kt_at hk]
theorem specl10Kid_c (all:Bool) (e:EE) (k:Nat) (hk:k<e.kids.length) (ih:PrC all e.kids[k]) (us:List V) (hb:us.length+(kidT all e.kind e.op (e.kt all) k).length≤4000000000):AppC Try.prog 69 (fun o=>[o,e.v,.int .i64 (k:Int),.bool all]) 3 us (us++tkV (kidT all e.kind e.op (e.kt all) k)):=by
 intro s H id hh
 rw [kidT_eq hk] at hb ⊢
 have hW:=fun t=>specWrapped_v e k hk t
 have hL:=fun t=>specLevelOf_v e.kids[k] t
 have hga:=EE.kid_at' hk
 unfold wrapT at hb ⊢
 dsimp only at hb ⊢
 generalize need e.kind e.op e.kids.length k=m at hW hb ⊢
 generalize lvl e.kids[k].kind e.kids[k].op=n at hW hL hb ⊢
 generalize e.kids[k]=x at hga hL ih hb ⊢
 have hP:=ih
 unfold PrC at hP
 generalize x.tk all=ts at hb hP ⊢
 have hml:(e.kids.map EE.toV).length=e.kids.length:=List.length_map ..
 unfold EE.v at hW ⊢
 refine LCalls.body0 Try.func69 rfl (by kernel_rfl) ?_
 by_cases hw:wraps all n m=true
 · rw [if_pos hw] at hb ⊢
   simp only [List.length_cons,List.length_append,List.length_nil] at hb
   have hE:=fun u (h:us.length+1+ts.length≤4000000000)=>hP (us++[u]) (by simp only [List.length_append,List.length_cons,List.length_nil];omega)
   have hE:=hE (sgn 40).toV (by omega)
   cases hd:decide (n<m)
   · rw [hd] at hW
     cases all
     · simp [wraps,hd] at hw
     have h9:n<9:=by simpa [wraps,hd] using hw
     repeat' first |(refine kBox ?_ ;first |(refine LOps.boxH hh rfl rfl ?_ ;intro s n hh)) |(refine kAlloc ?_ ;refine LOps.allocH tT_ok hh rfl rfl ?_ ;intro s n hh) |(refine kStore ?_ ;first |(refine LOps.storeH tT_ok 0 hh rfl rfl rfl rfl rfl rfl rfl rfl rfl ?_ ;intro s hh)) |(refine kBsl ?_ ;refine' LOps.bslH tT_ok rfl rfl rfl rfl rfl rfl rfl rfl hh ?_ ?_ ?_ ;rotate_left 2 ;(focus ((repeat' first |(exact ConsL.pls rfl rfl));done)) ;(focus ((repeat' first |(exact ElsH.of rfl));done)) ;intro s n hh) |(refine kApp ?_ ;first |(refine' LOps.appH tT_ok 1 rfl rfl rfl rfl rfl rfl rfl rfl rfl rfl hh ?_ ?_ (AppB.of ?_ rfl) ?_ ;rotate_left 3 ;(focus (first |(refine' ConsSp.ap ?_;((repeat' first |(exact Pick.here));done)))) ;(focus ((repeat' first |(exact Elems.of rfl));done)) ;(focus (first | omega |(simp ;omega))) ;intro s hh) |(refine' LOps.appH tT_ok 2 rfl rfl rfl rfl rfl rfl rfl rfl rfl rfl hh ?_ ?_ (AppB.of ?_ rfl) ?_ ;rotate_left 3 ;(focus (first |(apply ConsSp.pl;(focus ((repeat' first |(exact ConsL.pls rfl rfl));done))))) ;(focus ((repeat' first |(exact Elems.of rfl));done)) ;(focus (first | omega |(simp ;omega))) ;intro s hh)) |(refine kCallN 37 ?_ ;first |(refine LOps.accH 0 rfl (hE) rfl ok37 hh rfl rfl ?_ ;intro s hh)) |(refine kOps ?_;first |(refine LOps.nil ?_) |(refine kG ?_;first |(refine LOps.gT rfl rfl rfl ?_)) |(refine LOps.ev tT_ok rfl ?_) |(refine kLoad ?_;first |(refine LOps.ans (AnsL.loadH tT_ok 0 hh rfl rfl rfl rfl) ?_) |(refine LOps.ans (AnsL.loadH tT_ok 1 hh rfl rfl rfl rfl) ?_)) |(refine kIdx ?_;first |(refine LOps.ans (AnsL.idx tT_ok rfl rfl rfl rfl rfl hga rfl rfl) ?_)) |(refine kCallN 40 ?_;first |(refine LOps.ans (AnsL.callP rfl rfl rfl (ok40) (specl10Sign_w _ _)) ?_)) |(refine kCallN 97 ?_;first |(refine LOps.ans (AnsL.callP rfl rfl rfl (ok97) (hW _)) ?_)) |(refine kCallN 98 ?_;first |(refine LOps.ans (AnsL.callP rfl rfl rfl (ok98) (hL _)) ?_))) |(refine kWL ?_;first |(refine WL.seq ?_) |(refine WL.region (by kernel_rfl) ?_) |(refine WL.drawn (id:=3) [0,4,5,1,2,3,6,7] [1,3,6,7] [[],[],[1],[0,1,2],[],[],[0,1,2,3,4,5],[0,1,2,3,4,5,6]] (by kernel_rfl) (by kernel_rfl) ?_) |(refine WL.ret ?_) |(refine kCond ?_;first |(refine WL.condT' rfl ?_ ?_;(focus (first |(exact decide_eq_true (by assumption))))))) |(refine kDr ?_;first |(refine LDr.nil ?_) |(refine LDr.fl rfl rfl (.ev tT_ok rfl) ?_) |(refine LDr.fl rfl rfl (AnsL.bslF tT_ok rfl rfl rfl rfl rfl rfl rfl rfl rfl) ?_) |(refine kDLoad rfl ?_;first |(refine LDr.fl rfl rfl (AnsL.loadH tT_ok 0 hh rfl rfl rfl rfl) ?_)) |(refine LDr.eff rfl rfl rfl ?_)) |(refine lthen_n ?_) |(refine lthen_r ?_) |(refine LPost.r1 (r := .tmp 8) (.inl rfl) (Res1.tmp rfl) ?_) |(refine And.intro ?_ ?_) |(exact StsL.nil) |(refine StsL.cons ?_ ?_) |(refine StL.fl rfl rfl (.ev tT_ok rfl)) |(refine StL.fl rfl rfl (AnsL.loadH tT_ok 0 hh rfl rfl rfl rfl)) |(refine StL.fl rfl rfl (AnsL.loadH tT_ok 1 hh rfl rfl rfl rfl))
     refine AppC.fin ?_ hh (by (repeat' first |(exact Sel.nil) |(exact Sel.refl _) |(refine' Sel.p ?_ ?_;rotate_left 1;(focus (((repeat' first |(exact Pick.here) |(refine' Pick.there ?_));done)))));all_goals (repeat' first |(exact Sel.refl _) |(refine Sel.drop ?_)))
     simp [sgn,Token.toV]
   · rw [hd] at hW
     repeat' first |(refine kBox ?_ ;first |(refine LOps.boxH hh rfl rfl ?_ ;intro s n hh)) |(refine kAlloc ?_ ;refine LOps.allocH tT_ok hh rfl rfl ?_ ;intro s n hh) |(refine kStore ?_ ;first |(refine LOps.storeH tT_ok 0 hh rfl rfl rfl rfl rfl rfl rfl rfl rfl ?_ ;intro s hh)) |(refine kBsl ?_ ;refine' LOps.bslH tT_ok rfl rfl rfl rfl rfl rfl rfl rfl hh ?_ ?_ ?_ ;rotate_left 2 ;(focus ((repeat' first |(exact ConsL.pls rfl rfl));done)) ;(focus ((repeat' first |(exact ElsH.of rfl));done)) ;intro s n hh) |(refine kApp ?_ ;first |(refine' LOps.appH tT_ok 1 rfl rfl rfl rfl rfl rfl rfl rfl rfl rfl hh ?_ ?_ (AppB.of ?_ rfl) ?_ ;rotate_left 3 ;(focus (first |(refine' ConsSp.ap ?_;((repeat' first |(exact Pick.here));done)))) ;(focus ((repeat' first |(exact Elems.of rfl));done)) ;(focus (first | omega |(simp ;omega))) ;intro s hh) |(refine' LOps.appH tT_ok 2 rfl rfl rfl rfl rfl rfl rfl rfl rfl rfl hh ?_ ?_ (AppB.of ?_ rfl) ?_ ;rotate_left 3 ;(focus (first |(apply ConsSp.pl;(focus ((repeat' first |(exact ConsL.pls rfl rfl));done))))) ;(focus ((repeat' first |(exact Elems.of rfl));done)) ;(focus (first | omega |(simp ;omega))) ;intro s hh)) |(refine kCallN 37 ?_ ;first |(refine LOps.accH 0 rfl (hE) rfl ok37 hh rfl rfl ?_ ;intro s hh)) |(refine kOps ?_;first |(refine LOps.nil ?_) |(refine kG ?_;first |(refine LOps.gF rfl rfl rfl ?_) |(refine LOps.gU rfl rfl ?_)) |(refine LOps.ev tT_ok rfl ?_) |(refine kLoad ?_;first |(refine LOps.ans (AnsL.loadH tT_ok 0 hh rfl rfl rfl rfl) ?_) |(refine LOps.ans (AnsL.loadH tT_ok 1 hh rfl rfl rfl rfl) ?_)) |(refine kIdx ?_;first |(refine LOps.ans (AnsL.idx tT_ok rfl rfl rfl rfl rfl hga rfl rfl) ?_)) |(refine kCallN 40 ?_;first |(refine LOps.ans (AnsL.callP rfl rfl rfl (ok40) (specl10Sign_w _ _)) ?_)) |(refine kCallN 97 ?_;first |(refine LOps.ans (AnsL.callP rfl rfl rfl (ok97) (hW _)) ?_))) |(refine kWL ?_;first |(refine WL.seq ?_) |(refine WL.region (by kernel_rfl) ?_) |(refine WL.drawn (id:=3) [0,4,5,1,2,3,6,7] [1,3,6,7] [[],[],[1],[0,1,2],[],[],[0,1,2,3,4,5],[0,1,2,3,4,5,6]] (by kernel_rfl) (by kernel_rfl) ?_) |(refine WL.ret ?_) |(refine kCond ?_;first |(refine WL.condT rfl ?_))) |(refine kDr ?_;first |(refine LDr.nil ?_) |(refine LDr.fl rfl rfl (.ev tT_ok rfl) ?_) |(refine LDr.fl rfl rfl (AnsL.bslF tT_ok rfl rfl rfl rfl rfl rfl rfl rfl rfl) ?_) |(refine kDLoad rfl ?_;first |(refine LDr.fl rfl rfl (AnsL.loadH tT_ok 0 hh rfl rfl rfl rfl) ?_)) |(refine LDr.eff rfl rfl rfl ?_)) |(refine lthen_n ?_) |(refine lthen_r ?_) |(refine LPost.r1 (r := .tmp 8) (.inl rfl) (Res1.tmp rfl) ?_) |(refine And.intro ?_ ?_) |(exact StsL.nil) |(refine StsL.cons ?_ ?_) |(refine StL.fl rfl rfl (.ev tT_ok rfl)) |(refine StL.fl rfl rfl (AnsL.loadH tT_ok 0 hh rfl rfl rfl rfl)) |(refine StL.fl rfl rfl (AnsL.loadH tT_ok 1 hh rfl rfl rfl rfl))
     refine AppC.fin ?_ hh (by (repeat' first |(exact Sel.nil) |(exact Sel.refl _) |(refine' Sel.p ?_ ?_;rotate_left 1;(focus (((repeat' first |(exact Pick.here) |(refine' Pick.there ?_));done)))));all_goals (repeat' first |(exact Sel.refl _) |(refine Sel.drop ?_)))
     simp [sgn,Token.toV]
 · rw [if_neg hw] at hb ⊢
   have hd:decide (n<m)=false:=by cases h:decide (n<m) <;> simp_all [wraps]
   rw [hd] at hW
   have hE:=hP us hb
   cases all
   · skip
     repeat' first |(refine kBox ?_ ;first |(refine LOps.boxH hh rfl rfl ?_ ;intro s n hh)) |(refine kAlloc ?_ ;refine LOps.allocH tT_ok hh rfl rfl ?_ ;intro s n hh) |(refine kStore ?_ ;first |(refine LOps.storeH tT_ok 0 hh rfl rfl rfl rfl rfl rfl rfl rfl rfl ?_ ;intro s hh)) |(refine kCallN 37 ?_ ;first |(refine LOps.accH 2 rfl (hE) rfl ok37 hh rfl rfl ?_ ;intro s hh)) |(refine kOps ?_;first |(refine LOps.nil ?_) |(refine kG ?_;first |(refine LOps.gT rfl rfl rfl ?_) |(refine LOps.gF rfl rfl rfl ?_)) |(refine LOps.ev tT_ok rfl ?_) |(refine kLoad ?_;first |(refine LOps.ans (AnsL.loadH tT_ok 0 hh rfl rfl rfl rfl) ?_) |(refine LOps.ans (AnsL.loadH tT_ok 1 hh rfl rfl rfl rfl) ?_)) |(refine kIdx ?_;first |(refine LOps.ans (AnsL.idx tT_ok rfl rfl rfl rfl rfl hga rfl rfl) ?_)) |(refine kCallN 97 ?_;first |(refine LOps.ans (AnsL.callP rfl rfl rfl (ok97) (hW _)) ?_))) |(refine kWL ?_;first |(refine WL.seq ?_) |(refine WL.region (by kernel_rfl) ?_) |(refine WL.skip ?_) |(refine WL.ret ?_) |(refine kCond ?_;first |(refine WL.condF rfl ?_))) |(refine lthen_n ?_) |(refine LPost.r1 (r := .tmp 8) (.inl rfl) (Res1.tmp rfl) ?_)
     exact AppC.fin rfl hh (by (repeat' first |(exact Sel.nil) |(exact Sel.refl _) |(refine' Sel.p ?_ ?_;rotate_left 1;(focus (((repeat' first |(exact Pick.here) |(refine' Pick.there ?_));done)))));all_goals (repeat' first |(exact Sel.refl _) |(refine Sel.drop ?_)))
   · have h9 : ¬ n < 9 := by simpa [wraps, hd] using hw
     repeat' first |(refine kBox ?_ ;first |(refine LOps.boxH hh rfl rfl ?_ ;intro s n hh)) |(refine kAlloc ?_ ;refine LOps.allocH tT_ok hh rfl rfl ?_ ;intro s n hh) |(refine kStore ?_ ;first |(refine LOps.storeH tT_ok 0 hh rfl rfl rfl rfl rfl rfl rfl rfl rfl ?_ ;intro s hh)) |(refine kCallN 37 ?_ ;first |(refine LOps.accH 2 rfl (hE) rfl ok37 hh rfl rfl ?_ ;intro s hh)) |(refine kOps ?_;first |(refine LOps.nil ?_) |(refine kG ?_;first |(refine LOps.gT rfl rfl rfl ?_)) |(refine LOps.ev tT_ok rfl ?_) |(refine kLoad ?_;first |(refine LOps.ans (AnsL.loadH tT_ok 0 hh rfl rfl rfl rfl) ?_) |(refine LOps.ans (AnsL.loadH tT_ok 1 hh rfl rfl rfl rfl) ?_)) |(refine kIdx ?_;first |(refine LOps.ans (AnsL.idx tT_ok rfl rfl rfl rfl rfl hga rfl rfl) ?_)) |(refine kCallN 97 ?_;first |(refine LOps.ans (AnsL.callP rfl rfl rfl (ok97) (hW _)) ?_)) |(refine kCallN 98 ?_;first |(refine LOps.ans (AnsL.callP rfl rfl rfl (ok98) (hL _)) ?_))) |(refine kWL ?_;first |(refine WL.seq ?_) |(refine WL.region (by kernel_rfl) ?_) |(refine WL.skip ?_) |(refine WL.ret ?_) |(refine kCond ?_;first |(refine WL.condF' rfl ?_ ?_;(focus (first |(exact decide_eq_false (by assumption))))))) |(refine lthen_n ?_) |(refine LPost.r1 (r := .tmp 8) (.inl rfl) (Res1.tmp rfl) ?_)
     exact AppC.fin rfl hh (by (repeat' first |(exact Sel.nil) |(exact Sel.refl _) |(refine' Sel.p ?_ ?_;rotate_left 1;(focus (((repeat' first |(exact Pick.here) |(refine' Pick.there ?_));done)))));all_goals (repeat' first |(exact Sel.refl _) |(refine Sel.drop ?_)))
end Go.Proofs.Ytikghanejpigjaa
