/-
  The law of well-typed plans. Own work; no condition.
-/
import Derived.Test.YtehmlklfbllgcaaGreatDTyL
import Derived.Test.YtehmlklfbllgcaaGreatDCat3
namespace Go.Proofs.YtehmlklfbllgcaaGreat
open Go
set_option linter.unusedSimpArgs false
set_option linter.unusedVariables false
theorem specPlanTypes_c (c : Cat) (hc : c.wt ≤ 1048576) (p : PL) (hw : wgt p.v ≤ 1048576) : PlC Tryz.prog 22 c p := specPlanTypes_r c p hc hw fun k hk => specTypeIn_c c hc k (Nat.le_trans (PL.wgt_part2 hk) hw)
theorem implPlanTypes_c (c : Cat) (hc : c.wt ≤ 1048576) (p : PL) (hw : wgt p.v ≤ 1048576) : PlC Tryz.prog 23 c p := implPlanTypes_r c p hc hw fun k hk => implTypeIn_c c hc k (Nat.le_trans (PL.wgt_part2 hk) hw)
theorem rows_nil : RowsOk [] := fun r h => by cases h
def wellB (c : Cat) (p : PL) : Bool := catOk c && (decide (PE.msP (fun a b => max a b) p ≤ 24) && (decide (PE.msP (fun a b => a + b) p ≤ 200) && (PE.tyP c [] p).isSome))
end Go.Proofs.YtehmlklfbllgcaaGreat
