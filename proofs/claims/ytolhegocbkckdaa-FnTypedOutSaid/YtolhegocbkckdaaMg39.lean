/-
  Strings drawn; trees and plans drawn from a string of bytes.
  Plans drawn from a string of bytes.
  Own work; no condition.
-/
import Derived.Test.YtolhegocbkckdaaDPd3
namespace Go.Proofs.Ytolhegocbkckdaa
open Go
set_option linter.unusedSimpArgs false
set_option linter.unusedVariables false
theorem sz_wrap {n:Nat} (h:n≤maxLen):IntKind.i64.wrap (2+IntKind.i64.wrap ((n:Int).tdiv 20))=2+n / 20:=by
 rw [Int.tdiv_eq_ediv_of_nonneg (by omega)]
 unfold maxLen at h
 simp only [IntKind.wrap,IntKind.bits,IntKind.signed]
 simp
 omega
theorem specl1Size_v {b:V} (hb:Bytes b):∃ n:Int,2≤n∧n≤4∧∀ s,VCalls Try.prog 60 [b,.int .i64 4] s (fun v s'=>v = .int .i64 n∧s'=s):=by
 rcases hb with rfl | ⟨bs,rfl,hlen⟩
 · refine ⟨2,by omega,by omega,fun s=>?_⟩
   refine LCalls.pure Try.func60 rfl (by kernel_rfl) (by simp) ?_
   repeat' first |(refine kOps ?_;first |(refine LOps.nil ?_) |(refine LOps.ev tT_ok rfl ?_) |(refine kBin ?_;first |(refine LOps.ans (AnsL.arith rfl rfl rfl) ?_))) |(refine kWL ?_;first |(refine WL.seq ?_) |(refine WL.region (by kernel_rfl) ?_) |(refine WL.skip ?_) |(refine WL.ret ?_) |(refine kCond ?_;first |(refine WL.condF rfl ?_))) |(refine lthen_n ?_) |(refine LPost.r1 (r := .tmp 4) (.inl rfl) (Res1.tmp rfl) ?_) |(refine PureR.mk ?_)
   rfl
 · refine ⟨if 2+bs.length / 20>4 then 4 else 2+bs.length / 20,by split <;> omega,by split <;> omega,fun s=>?_⟩
   refine LCalls.pure Try.func60 rfl (by kernel_rfl) (by simp) ?_
   repeat' first |(refine kOps ?_;first |(refine LOps.nil ?_) |(refine LOps.ev tT_ok rfl ?_) |(refine kLen ?_;first |(refine LOps.ans (AnsL.lenM tT_ok rfl rfl rfl) ?_)) |(refine kBin ?_;first |(refine LOps.ans (AnsL.arith rfl rfl rfl) ?_))) |(refine kWL ?_;first |(refine WL.seq ?_) |(refine WL.region (by kernel_rfl) ?_) |(refine WL.skip ?_) |(refine WL.ret ?_) |(refine kCond ?_;first |(refine WL.cond rfl (fun h=>?_) (fun h=>?_)))) |(refine lthen_n ?_) |(refine lthen_r ?_) |(refine LPost.r1 (r := .tmp 4) (.inl rfl) (Res1.tmp rfl) ?_) |(refine PureR.mk ?_)
   · rw [sz_wrap hlen] at h
     simp only [decide_eq_true_eq] at h
     rw [if_pos (by omega)]
     rfl
   · rw [sz_wrap hlen] at h ⊢
     simp only [decide_eq_false_iff_not] at h
     rw [if_neg (by omega)]
     rfl
end Go.Proofs.Ytolhegocbkckdaa

namespace Go.Proofs.Ytolhegocbkckdaa
open Go
set_option linter.unusedSimpArgs false
set_option linter.unusedVariables false
def f6 (a b c d e f:Nat × Nat):Nat→Nat × Nat
 | 0=>a
 | 1=>b
 | 2=>c
 | 3=>d
 | 4=>e
 | _=>f
def wP:Nat:=64+6*wE 3
end Go.Proofs.Ytolhegocbkckdaa
