/-
  From a row's listed tables to what every state holds of the library's table. Own work; no condition.
-/
import Derived.Test.YtoededaekidbcaaDoorVRow
import Derived.Test.YtoededaekidbcaaDoorRows
import Derived.Lib.LaidU8
import Derived.Lib.LaidTab
import Derived.Lib.ItoaNum
import Derived.Lay
import Derived.LaidMore
import Derived.MakeChecks
namespace Go.Proofs.YtoededaekidbcaaDoor
open Go
set_option linter.unusedSimpArgs false
set_option linter.unusedVariables false

theorem pow10_data : (Rows.laid_internal_strconv_uint64pow10 : DataW Unit) = Lib.tabData .u64 Lib.pow10Tab := rfl
theorem gTab : Tryd.prog.globalNamed "internal/strconv.uint64pow10" = some 0 := by kernel_rfl
theorem tab_laid {laid : List (String × DataW Unit)} {W : World} (hp : (laid.all fun x => x.2.handleName?.isNone) = true) (hm : ("internal/strconv.uint64pow10", (Rows.laid_internal_strconv_uint64pow10 : DataW Unit)) ∈ laid) (h : laidMetH Tryd.prog laid W) : TabW W := by
  rw [MakeChecks.laidMetH_plain _ _ _ hp] at h
  obtain ⟨g, t, cs, fuel, p, hg, ht, hv, hd⟩ := Lib.laidMet.reads h hm
  obtain rfl := Option.some.inj (gTab.symm.trans hg)
  obtain rfl := Option.some.inj ((show (Tryd.prog.globals[0]?).map (·.type) = some 119 by kernel_rfl).symm.trans ht)
  rw [pow10_data] at hd
  have hc := Lib.cells_of_tab (n := 20) (e := 98) (show Tryd.prog.underlying 119 = some (.array 20 98) by kernel_rfl) (show Tryd.prog.underlying 98 = some (.int .u64) by kernel_rfl) (by kernel_rfl) (by kernel_rfl) hd
  intro g vs e
  cases e
  unfold World.var? at hv
  rw [gTab] at hv
  change (match W.heap[0]? with
      | some (.cells cs _ _) => some cs
      | _ => none) = _ at hv
  split at hv
  · rename_i cs' e' fr' hh
    cases hv
    refine ⟨e', fr', hh.trans ?_⟩
    congr 2
    apply Array.ext'
    rw [hc]
    rfl
  · cases hv

end Go.Proofs.YtoededaekidbcaaDoor
