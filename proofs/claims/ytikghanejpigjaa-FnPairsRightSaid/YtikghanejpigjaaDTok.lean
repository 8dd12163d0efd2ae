/-
 Tokens drawn; a row of tokens turned a little. Own work; no condition.
-/
import Derived.Test.YtikghanejpigjaaMg33
import Derived.Test.YtikghanejpigjaaMg13
import Derived.Test.YtikghanejpigjaaMg14
import Derived.Test.YtikghanejpigjaaDTk3
namespace Go.Proofs.Ytikghanejpigjaa
open Go
set_option linter.unusedSimpArgs false
set_option linter.unusedVariables false
theorem specl1Max_b (a b:Int) (s:S):VCalls Try.prog 65 [.int .i64 a,.int .i64 b] s (fun v s'=>v = .int .i64 (if b<a then a else b)∧s'=s):=by
 by_cases h:b<a
 · have h2 : a > b := h
   refine LCalls.pure Try.func65 rfl (by kernel_rfl) (by simp) ?_
   repeat' first |(refine kOps ?_;first |(refine LOps.nil ?_) |(refine LOps.ev tT_ok rfl ?_)) |(refine kWL ?_;first |(refine WL.seq ?_) |(refine WL.region (by kernel_rfl) ?_) |(refine WL.ret ?_) |(refine kCond ?_;first |(refine WL.condT' rfl ?_ ?_;(focus (first |(exact decide_eq_true (by assumption))))))) |(refine lthen_n ?_) |(refine lthen_r ?_) |(refine LPost.r1 (r := .tmp 4) (.inl rfl) (Res1.tmp rfl) ?_) |(refine PureR.mk ?_)
   rw [if_pos h];rfl
 · have h2 : ¬ a > b := h
   refine LCalls.pure Try.func65 rfl (by kernel_rfl) (by simp) ?_
   repeat' first |(refine kOps ?_;first |(refine LOps.nil ?_) |(refine LOps.ev tT_ok rfl ?_)) |(refine kWL ?_;first |(refine WL.seq ?_) |(refine WL.region (by kernel_rfl) ?_) |(refine WL.skip ?_) |(refine WL.ret ?_) |(refine kCond ?_;first |(refine WL.condF' rfl ?_ ?_;(focus (first |(exact decide_eq_false (by assumption))))))) |(refine lthen_n ?_) |(refine LPost.r1 (r := .tmp 4) (.inl rfl) (Res1.tmp rfl) ?_) |(refine PureR.mk ?_)
   rw [if_neg h];rfl
theorem Tok.agg_eq (a:Int) (b:List UInt8) (c:Int):V.agg [.int .i64 a,.str b,.int .i64 c]=tokW ⟨a,b,c⟩:=rfl
theorem specl3Sign_d {b:V} (hb:Bytes b):Drw Try.prog 116 b [] V.str (fun _=>True):=by
 intro s H l i h hi hh
 refine LCalls.body0 Try.func116 rfl (by kernel_rfl) ?_
 repeat' first |(refine kBsl ?_ ;refine LOps.ans (AnsL.bslF tT_ok rfl rfl rfl rfl rfl rfl rfl rfl rfl) ?_) |(refine kCallN 86 ?_ ;first |(refine LOps.drawH 0 rfl rfl ok86 hh rfl rfl ?_ (specl1Pick_d hb rfl (by simp)) ?_ ;(focus (first | assumption | omega)) ;intro s x i h hq hi hh ;try dsimp only)) |(refine kOps ?_;first |(refine LOps.nil ?_) |(refine LOps.ev tT_ok rfl ?_)) |(refine kWL ?_;first |(refine WL.seq ?_) |(refine WL.region (by kernel_rfl) ?_) |(refine WL.ret ?_)) |(refine lthen_n ?_) |(refine LPost.r1 (r := .tmp 2) (.inl rfl) (Res1.tmp rfl) ?_)
 all_goals
   apply Drw.fin (hh:=hh)
   case hv=>first | exact Val.agg_eq _ _ _ | rfl
   case hs=>(first |(refine Sel.cons 0 rfl rfl ?_) |(refine Sel.cons 1 rfl rfl ?_) |(refine Sel.cons 2 rfl rfl ?_) |(refine Sel.cons 3 rfl rfl ?_) |(refine Sel.cons 4 rfl rfl ?_) |(refine Sel.cons 5 rfl rfl ?_) |(refine Sel.cons 6 rfl rfl ?_) |(refine Sel.cons 7 rfl rfl ?_));(repeat' first |(exact Sel.refl _) |(refine Sel.drop ?_))
   case hi=>first | assumption | omega |(simp;omega)
   case hp=>exact trivial
theorem specl3Token_d {b:V} (hb:Bytes b):Drw Try.prog 104 b [] tokW (fun _=>True):=by
 intro s H l i h hi hh
 refine LCalls.body0 Try.func104 rfl (by kernel_rfl) ?_
 repeat' first |(refine kAlloc ?_ ;refine LOps.allocH tT_ok hh rfl rfl ?_ ;intro s n hh) |(refine kStore ?_ ;first |(refine LOps.storeH tT_ok 1 hh rfl rfl rfl rfl rfl rfl rfl rfl rfl ?_ ;intro s hh)) |(refine kBsl ?_ ;refine LOps.ans (AnsL.bslF tT_ok rfl rfl rfl rfl rfl rfl rfl rfl rfl) ?_) |(refine kCallN 26 ?_ ;first |(refine LOps.drawH 0 rfl rfl ok26 hh rfl rfl ?_ (specl1Below_d hb (by omega)) ?_ ;(focus (first | assumption | omega)) ;intro s x i h hq hi hh ;try dsimp only) |(refine LOps.drawH 1 rfl rfl ok26 hh rfl rfl ?_ (specl1Below_d hb (by omega)) ?_ ;(focus (first | assumption | omega)) ;intro s x i h hq hi hh ;try dsimp only)) |(refine kCallN 89 ?_ ;first |(refine LOps.drawH 0 rfl rfl ok89 hh rfl rfl ?_ (specl1Whole_d hb) ?_ ;(focus (first | assumption | omega)) ;intro s x i h hq hi hh ;try dsimp only)) |(refine kCallN 86 ?_ ;first |(refine LOps.drawH 0 rfl rfl ok86 hh rfl rfl ?_ (specl1Pick_d hb rfl (by simp)) ?_ ;(focus (first | assumption | omega)) ;intro s x i h hq hi hh ;try dsimp only)) |(refine kCallN 87 ?_ ;first |(refine LOps.drawH 0 rfl rfl ok87 hh rfl rfl ?_ (specl2Name_d hb) ?_ ;(focus (first | assumption | omega)) ;intro s x i h hq hi hh ;try dsimp only)) |(refine kCallN 116 ?_ ;first |(refine LOps.drawH 0 rfl rfl ok116 hh rfl rfl ?_ (specl3Sign_d hb) ?_ ;(focus (first | assumption | omega)) ;intro s x i h hq hi hh ;try dsimp only)) |(refine kOps ?_;first |(refine LOps.nil ?_) |(refine LOps.ev tT_ok rfl ?_) |(refine kBin ?_;first |(refine LOps.ans (AnsL.add rfl rfl ?_) ?_;(focus (constructor <;> omega)))) |(refine kIdx ?_;first |(refine LOps.ans (AnsL.idxZ tT_ok rfl rfl rfl rfl rfl ?_ (getS_eq (vs:=l2W) rfl ?_ ?_) rfl rfl) ?_;(focus (omega));(focus (omega));(focus (have e:((l2W.length:Nat):Int)=29:=rfl ;omega)))) |(refine kCallN 65 ?_;first |(refine LOps.ans (AnsL.callP rfl rfl rfl (ok65) (specl1Max_b _ _ _)) ?_)) |(refine kCallN 90 ?_;first |(refine LOps.ans (AnsL.callP rfl rfl rfl (ok90) (specl2Words_v _)) ?_)) |(refine kCallN 96 ?_;first |(refine LOps.ans (AnsL.callP rfl rfl rfl (ok96) (specDigits_v _ _)) ?_))) |(refine kWL ?_;first |(refine WL.seq ?_) |(refine WL.region (by kernel_rfl) ?_) |(refine WL.block ?_) |(refine WL.skip ?_) |(refine WL.ret ?_) |(refine kCond ?_;first |(refine WL.cond rfl (fun h=>?_) (fun h=>?_)))) |(refine lthen_n ?_) |(refine lthen_r ?_) |(refine lblock_n ?_) |(refine lblock_r ?_) |(refine' LPost.r1 (r := .cell 2 30) (.inl rfl) ?_ ?_;rotate_left 1;(focus (first |(exact Res1.cellH 1 tT_ok hh rfl rfl rfl rfl))))
 all_goals
   apply Drw.fin (x:=(⟨_,_,_⟩:Token)) (hh:=hh)
   case hv=>exact Tok.agg_eq _ _ _
   case hs =>
     (repeat' first |(exact Sel.nil) |(exact Sel.refl _) |(refine' Sel.p ?_ ?_;rotate_left 1;(focus (((repeat' first |(exact Pick.here) |(refine' Pick.there ?_));done)))))
     all_goals (repeat' first |(exact Sel.refl _) |(refine Sel.drop ?_))
   case hi=>assumption
   case hp=>exact trivial
theorem specl3Bent_d {b:V} (hb:Bytes b):Drw Try.prog 75 b [] tokW (fun _=>True):=by
 intro s H l i h hi hh
 refine LCalls.body0 Try.func75 rfl (by kernel_rfl) ?_
 repeat' first |(refine kAlloc ?_ ;refine LOps.allocH tT_ok hh rfl rfl ?_ ;intro s n hh) |(refine kStore ?_ ;first |(refine LOps.storeH tT_ok 0 hh rfl rfl rfl rfl rfl rfl rfl rfl rfl ?_ ;intro s hh) |(refine LOps.storeH tT_ok 1 hh rfl rfl rfl rfl rfl rfl rfl rfl rfl ?_ ;intro s hh) |(refine LOps.storeH tT_ok 2 hh rfl rfl rfl rfl rfl rfl rfl rfl rfl ?_ ;intro s hh)) |(refine kBsl ?_ ;refine LOps.ans (AnsL.bslF tT_ok rfl rfl rfl rfl rfl rfl rfl rfl rfl) ?_) |(refine kCallN 26 ?_ ;first |(refine LOps.drawH 0 rfl rfl ok26 hh rfl rfl ?_ (specl1Below_d hb (by omega)) ?_ ;(focus (first | assumption | omega)) ;intro s x i h hq hi hh ;try dsimp only) |(refine LOps.drawH 1 rfl rfl ok26 hh rfl rfl ?_ (specl1Below_d hb (by omega)) ?_ ;(focus (first | assumption | omega)) ;intro s x i h hq hi hh ;try dsimp only)) |(refine kCallN 89 ?_ ;first |(refine LOps.drawH 0 rfl rfl ok89 hh rfl rfl ?_ (specl1Whole_d hb) ?_ ;(focus (first | assumption | omega)) ;intro s x i h hq hi hh ;try dsimp only)) |(refine kCallN 86 ?_ ;first |(refine LOps.drawH 0 rfl rfl ok86 hh rfl rfl ?_ (specl1Pick_d hb rfl (by simp)) ?_ ;(focus (first | assumption | omega)) ;intro s x i h hq hi hh ;try dsimp only)) |(refine kCallN 104 ?_ ;first |(refine LOps.drawH 1 rfl rfl ok104 hh rfl rfl ?_ (specl3Token_d hb) ?_ ;(focus (first | assumption | omega)) ;intro s x i h hq hi hh ;try dsimp only)) |(refine kOps ?_;first |(refine LOps.nil ?_) |(refine LOps.ev tT_ok rfl ?_) |(refine kLoad ?_;first |(refine LOps.ans (AnsL.loadH tT_ok 1 hh rfl rfl rfl rfl) ?_))) |(refine kWL ?_;first |(refine WL.seq ?_) |(refine WL.region (by kernel_rfl) ?_) |(refine WL.block ?_) |(refine WL.skip ?_) |(refine WL.ret ?_) |(refine kCond ?_;first |(refine WL.cond rfl (fun h=>?_) (fun h=>?_)))) |(refine lthen_n ?_) |(refine lblock_n ?_) |(refine' LPost.r1 (r := .cell 2 30) (.inl rfl) ?_ ?_;rotate_left 1;(focus (first |(exact Res1.cellH 2 tT_ok hh rfl rfl rfl rfl))))
 all_goals
   apply Drw.fin (x:=(⟨_,_,_⟩:Token)) (hh:=hh)
   case hv=>exact Tok.agg_eq _ _ _
   case hs =>
     (repeat' first |(exact Sel.nil) |(exact Sel.refl _) |(refine' Sel.p ?_ ?_;rotate_left 1;(focus (((repeat' first |(exact Pick.here) |(refine' Pick.there ?_));done)))))
     all_goals (repeat' first |(exact Sel.refl _) |(refine Sel.drop ?_))
   case hi=>assumption
   case hp=>exact trivial
end Go.Proofs.Ytikghanejpigjaa
